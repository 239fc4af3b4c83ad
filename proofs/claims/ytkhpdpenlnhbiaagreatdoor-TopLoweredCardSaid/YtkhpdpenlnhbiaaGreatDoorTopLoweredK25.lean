/- A part of the proof: contracts of functions and plain laws; each theorem says its own conditions. -/
import Derived.Test.YtkhpdpenlnhbiaaGreatDoorTopLoweredK7
import Derived.Test.YtkhpdpenlnhbiaaGreatDoorTopLoweredLB
import Derived.Test.YtkhpdpenlnhbiaaGreatDoorTopLoweredK23
set_option linter.unusedVariables false
set_option linter.unusedSimpArgs false
namespace Go.Proofs.YtkhpdpenlnhbiaaGreatDoor
open Go.RowKit Sx LexS ParS _root_.Go.Proofs.Tryz
theorem Tryz.info3:Tryz.prog.info? 3=some Tryz.t3:=by kernel_rfl
theorem ckSs_all {V W G:Wd→Bool}:∀ {l:List Sm},ckSs V W G l=true↔∀ x∈l,ckS V W G x=true
 | []=>by simp [ckSs]
 | x::r=>by rw [ckSs,Bool.and_eq_true,ckSs_all];simp
theorem imp_or {p:Prop} [Decidable p] {q:Prop}:(¬ p∨q)↔(p→q):=⟨fun h g=>h.resolve_left (fun f=>f g),fun h=>(Decidable.em p).elim (fun g=>.inr (h g)) .inl⟩
def nmsOk (V W G:Wd→Bool) (s:Sm):Prop:=(s.k=1→V s.nm=true)∧(s.k=2→V s.nm=true∧W s.other=true)∧(s.k=5→G s.nm=true)
theorem ckS_iff {V W G:Wd→Bool} {s:Sm}:ckS V W G s=true↔nmsOk V W G s∧(∀ x∈s.e,ckE V x 1=true)∧ckSs V W G s.body=true∧ckSs V W G s.els=true:=by
 cases s with
 | mk k nm other e body els a=>
  rw [ckS]
  simp only [Bool.and_eq_true,Bool.or_eq_true,Bool.not_eq_true',decide_eq_false_iff_not,imp_or,ckEs_all,nmsOk,Sm.k,Sm.nm,Sm.other,Sm.e,Sm.body,Sm.els,and_assoc]
theorem rightSs_mem {d:Nat}:∀ {l:List Sm},rightSs l d=true→∀ x∈l,rightS x d=true
 | [],_,x,hx=>by simp at hx
 | y::r,h,x,hx=>by
  rw [rightSs,Bool.and_eq_true] at h
  rcases List.mem_cons.1 hx with rfl|hx
  ·exact h.1
  ·exact rightSs_mem h.2 x hx
theorem rightS_parts {s:Sm} {d:Nat} (h:rightS s d=true):(∀ x∈s.e,rightE x 0=true)∧s.e.length≤1∧rightSs s.body (d+1)=true∧rightSs s.els (d+1)=true∧(s.body≠[]→d<64)∧(s.els≠[]→d<64):=by
 cases s with
 | mk k nm other e body els a=>
  simp only [rightS,Bool.and_eq_true,decide_eq_true_eq,Bool.or_eq_true,Bool.not_eq_true',Bool.or_eq_false_iff,decide_eq_false_iff_not] at h
  obtain⟨⟨⟨⟨⟨⟨⟨⟨h1,h2⟩,h3⟩,h4⟩,h5⟩,h6⟩,h7⟩,h8⟩,h9⟩:=h
  show (∀ x∈e,rightE x 0=true)∧e.length≤1∧rightSs body (d+1)=true∧rightSs els (d+1)=true∧(body≠[]→d<64)∧(els≠[]→d<64)
  have he:(∀ x∈e,rightE x 0=true)∧e.length≤1:=by
   unfold rightX at h4
   split at h4
   ·split at h4
    ·exact⟨fun x hx=>by simp only [List.mem_singleton] at hx;rw [hx];exact h4,by simp⟩
    ·cases h4
   ·have:e=[]:=List.length_eq_zero_iff.1 (by simpa using h4)
    subst this;exact⟨fun x hx=>by simp at hx,by simp⟩
  refine⟨he.1,he.2,h8,h9,fun hb=>?_,fun hb=>?_⟩
  ·rcases h7 with h|h
   ·rcases h5 with h'|h'
    ·rw [h.1] at h';cases h'
    ·exact absurd (List.length_eq_zero_iff.1 h') hb
   ·exact h
  ·rcases h7 with h|h
   ·exact absurd (List.length_pos_iff.2 hb) h.2
   ·exact h
section
variable (n0 wb tm lm:Nat) (p0 p1 p2:Value) (top:Wd→Int) (loc:Wd→Bool)
def StmP (s : Sm) : Prop := ∀ (d : Nat), rightS s d = true → 1 ≤ d → d ≤ 64 → OkS s → ∀ (l : List Value) (w : World), SmV w (· < n0) s l → Wk wb tm lm p0 p1 p2 top loc w →
    RetP Tryz.prog 125 [.pointer (some ⟨wb,0,none⟩),.agg l.toArray,.int .i64 (d:Int)] w (fun v w'=>ckS (vaV top loc) (vaW top loc) (vaG top loc) s=true∧Chg [] w w') (fun v w'=>ckS (vaV top loc) (vaW top loc) (vaG top loc) s=false∧Brk w v w')
def BlkP (l : List Sm) : Prop := ∀ (d : Nat), rightSs l d = true → 1 ≤ d → (l ≠ [] → d ≤ 64) → OkSs l → d ≤ 65 → ∀ (oa : Option Addr) (c : Nat) (w : World), SmRow w (· < n0) oa l → Wk wb tm lm p0 p1 p2 top loc w →
    RetP Tryz.prog 106 [.pointer (some ⟨wb,0,none⟩),.slice oa l.length c,.int .i64 (d:Int)] w (fun v w'=>ckSs (vaV top loc) (vaW top loc) (vaG top loc) l=true∧Chg [] w w') (fun v w'=>ckSs (vaV top loc) (vaW top loc) (vaG top loc) l=false∧Brk w v w')
end
section
variable {n0 wb tm lm:Nat} {p0 p1 p2:Value} {top:Wd→Int} {loc:Wd→Bool}
set_option maxHeartbeats 2000000 in
theorem stmt_of (s:Sm) (hB:BlkP n0 wb tm lm p0 p1 p2 top loc s.body) (hE:BlkP n0 wb tm lm p0 p1 p2 top loc s.els):StmP n0 wb tm lm p0 p1 p2 top loc s:=by
 intro d hr hd1 hd64 hok l w hV hw
 obtain⟨oe,ob,ol,ce,cb,cl,rfl,he,hb,hl⟩:=SmV.inv hV
 obtain⟨r1,r2,r3,r4,r5,r6⟩:=rightS_parts hr
 have o2:=hok.body
 have o3:=hok.els
 refine retp_of [_,_,_] func125 rfl ntmps125 rfl ?_
 have st:=St.init w []
 obtain⟨w0,rfl⟩:∃ w0,w0=w:=⟨_,rfl⟩
 refine sr ?_
 refine vc_e (e_bx (l:=[_,_,_,_,_,_,_]) st rfl rfl rfl rfl ?_)
 intro b4 w hb4 st
 refine et (vk3 0 2 4 (sr ?_))
 refine yla st 0 [_,_,_,_,_,_,_] isAgg144 sizeOf144 ?_
 refine vc_e (e_call [_] rfl rfl call132 rfl (shape_any s d hr oe ob ol ce cb cl _) ?_)
 rintro _ w ⟨rfl,cw⟩
 replace st:=st.call0 cw
 refine vy (y_not rfl) ?_
 refine vc_e (e_call [_,_] rfl rfl call46 rfl (when_any _ _ _) ?_)
 rintro _ _ ⟨rfl,rfl⟩
 refine ym ?_
 refine vy (y_gtr rfl rfl) ?_
 refine vc_e (e_call [_,_] rfl rfl call46 rfl (when_any _ _ _) ?_)
 rintro _ _ ⟨rfl,rfl⟩
 have e7:(if decide (64<(d:Int))=true then (7:Int) else 0)=0:=if_neg (by simp;omega)
 rw [e7]
 refine vc_e (e_bsn (l:=[0,0].map iV) (E:=3) st [(0,_),(1,_)] rfl rfl rfl (fun w=>by simp [Instr.buildSlice,run_underlying underlying44,sizeOf3,zeroValue3,Instr.fill,newRow,newObj,Sem.run,go_sem,Value.cells]) ?_)
 intro b16 w hb16 st
 replace st:=st.toOwn (len:=2) (size:=1) hb16 rfl (by unfold maxLen;omega)
 refine ya ?_
 refine et (vk4 0 2 4 6 ?_)
 refine vc_cut (w0:=w0) (M:=[]) (fun (y:Option Addr×Nat×List Int)=>[(0,.pointer (some ⟨wb,0,none⟩)),(2,.int .i64 (d:Int)),(4,.pointer (some ⟨b4,0,none⟩)),(6,.slice y.1 y.2.2.length y.2.1)]) (fun y=>[.own (.slice y.1 y.2.2.length y.2.1) 3 1 y.2.2.length (y.2.2.map iV),.blk b4 (.cells (smL s oe ob ol ce cb cl).toArray 144 (0,0))]) (fun y _=>2≤y.2.2.length∧y.2.2.length≤100∧(∀ x∈y.2.2,0≤x)∧((∀ x∈y.2.2,x=0)↔nmsOk (vaV top loc) (vaW top loc) (vaG top loc) s)) ?_ ?_
 ·refine vc_seq ?_
  refine vc_region ?_
  refine vy (y_fa0 rfl underlying144 rfl rfl sizeOf141 rfl) ?_
  refine yl st 1 isAgg141 ?_
  refine et (vk5 0 2 4 6 18 (vc_block (sr ?_)))
  refine vy (y_eqi rfl rfl) ?_
  refine ya ?_
  refine et (vk6 0 2 4 6 18 19 ?_)
  refine vif ?_ ?_
  ·intro hc19
   try simp only [dn] at hc19
   refine vc_region ?_
   iterate 2 refine ym ?_
   refine yfz 1 underlying144 sizeOf9 ?_
   refine yl st 1 isAgg9 ?_
   refine vc_e (e_call [_,_,_] rfl rfl call133 rfl (variable_any wb tm lm p0 p1 p2 top loc _ _ _ (hw.kept st.chg)) ?_)
   rintro _ w ⟨rfl,cw⟩
   replace st:=st.call0 cw
   refine vc_e (e_bs1 (l:=[_]) st rfl rfl rfl rfl underlying44 sizeOf3 rfl rfl rfl zeroValue3 ?_)
   intro b26 w hb26 st
   refine vc_e (e_app (bytes:=8) st 1 0 rfl rfl rfl rfl rfl rfl underlying44 Tryz.info3 rfl rfl rfl rfl rfl (by simp) rfl rfl (by unfold maxLen;omega) (by omega) ?_)
   intro oa27 cap27 w st;dsimp only [setNth] at st
   refine ya ?_
   refine vc_end (vq_block ?_)
   refine vq_meet (oa27,cap27,[0,0]++[varR top loc s.nm false]) ⟨rfl,rfl,rfl,rfl,trivial⟩ (st.pick [1,2] rfl (by decide)) ?_
   ·have q1:=varR_pos top loc s.nm false
    have q2:=varR_pos top loc s.other true
    have q3:=grdR_pos top loc s.nm
    refine⟨by simp,by simp,by intro x hx;simp only [List.cons_append,List.nil_append,List.mem_cons,List.not_mem_nil,or_false] at hx;omega,?_⟩
    unfold nmsOk vaV vaW vaG
    simp only [decide_eq_true_eq]
    constructor
    ·intro h
     simp only [List.cons_append,List.nil_append,List.mem_cons,List.not_mem_nil,or_false,forall_eq_or_imp,forall_eq] at h
     refine⟨fun hk=>?_,fun hk=>?_,fun hk=>?_⟩ <;> omega
    ·intro ⟨h1,h2,h3⟩ x hx
     simp only [List.cons_append,List.nil_append,List.mem_cons,List.not_mem_nil,or_false] at hx
     omega
  intro hc19
  try simp only [dn] at hc19
  refine sr ?_
  refine vy (y_eqi rfl rfl) ?_
  refine ya ?_
  refine et (vk6 0 2 4 6 18 28 ?_)
  refine vif ?_ ?_
  ·intro hc28
   try simp only [dn] at hc28
   refine kdr Tryz.mixed [Yt 0,Yt 1,Yt 2,Yt 5,Yt 6,Yt 7,Nt 3,Nt 4,Nt 8,Nt 9,Nt 10,Yt 11] 10 [.own (.slice (some ⟨b16,0,none⟩) 2 2) 3 1 2 ([0,0].map iV),.blk b4 (.cells (smL s oe ob ol ce cb cl).toArray 144 (0,0))] st ?_
   clear st;intro w st hS
   iterate 2 refine km hS ?_
   refine vk_takeU rfl rfl rfl rfl (fun _=>hS) (fun w=>(by exact y_faz (k:=1) rfl underlying144 rfl rfl sizeOf9 rfl)) ?_
   refine km hS ?_
   refine vk_takeU rfl rfl rfl rfl (fun _=>hS) (fun w=>(by exact y_faz (k:=2) rfl underlying144 rfl rfl sizeOf9 rfl)) ?_
   refine vk_take rfl rfl rfl rfl hS (fun w st=>y_ld st 1 rfl isAgg9 rfl rfl) ?_
   refine vk_do rfl rfl (e_run rfl rfl (y_ld st 1 rfl isAgg9 rfl rfl) ?_)
   refine vk_next (by exact st) ?_;intro hS
   refine vk_do rfl rfl (e_call [_,_,_] rfl rfl call133 rfl (variable_any wb tm lm p0 p1 p2 top loc _ _ _ (hw.kept st.chg)) ?_)
   rintro _ w ⟨rfl,cw⟩
   replace st:=st.call0 cw
   refine vk_next (by exact st) ?_;intro hS
   refine vk_do rfl rfl (e_call [_,_,_] rfl rfl call133 rfl (variable_any wb tm lm p0 p1 p2 top loc _ _ _ (hw.kept st.chg)) ?_)
   rintro _ w ⟨rfl,cw⟩
   replace st:=st.call0 cw
   refine vk_next (by exact st) ?_;intro hS
   refine vk_do rfl rfl (e_bsn (l:=[varR top loc s.nm false,varR top loc s.other true].map iV) (E:=3) st [(0,_),(1,_)] rfl rfl rfl (fun w=>by simp [Instr.buildSlice,run_underlying underlying44,sizeOf3,zeroValue3,Instr.fill,newRow,newObj,Sem.run,go_sem,Value.cells]) ?_)
   intro b39 w hb39 st
   refine vk_next st.dr ?_;intro hS
   refine vk_do rfl rfl (e_app (bytes:=8) st 1 0 rfl rfl rfl rfl rfl rfl underlying44 Tryz.info3 rfl rfl rfl rfl rfl (by simp) rfl rfl (by unfold maxLen;omega) (by omega) ?_)
   intro oa40 cap40 w st;dsimp only [setNth] at st
   refine vk_late ?_
   refine vk_takeU rfl rfl rfl rfl (fun h=>by cases h) (fun w=>y_as rfl) ?_
   refine vk_end ?_
   refine vq_block ?_
   refine vq_meet (oa40,cap40,[0,0]++[varR top loc s.nm false,varR top loc s.other true]) ⟨rfl,rfl,rfl,rfl,trivial⟩ (st.pick [1,2] rfl (by decide)) ?_
   ·have q1:=varR_pos top loc s.nm false
    have q2:=varR_pos top loc s.other true
    have q3:=grdR_pos top loc s.nm
    refine⟨by simp,by simp,by intro x hx;simp only [List.cons_append,List.nil_append,List.mem_cons,List.not_mem_nil,or_false] at hx;omega,?_⟩
    unfold nmsOk vaV vaW vaG
    simp only [decide_eq_true_eq]
    constructor
    ·intro h
     simp only [List.cons_append,List.nil_append,List.mem_cons,List.not_mem_nil,or_false,forall_eq_or_imp,forall_eq] at h
     refine⟨fun hk=>?_,fun hk=>?_,fun hk=>?_⟩ <;> omega
    ·intro ⟨h1,h2,h3⟩ x hx
     simp only [List.cons_append,List.nil_append,List.mem_cons,List.not_mem_nil,or_false] at hx
     omega
  intro hc28
  try simp only [dn] at hc28
  refine sr ?_
  refine vy (y_eqi rfl rfl) ?_
  refine ya ?_
  refine et (vk5 0 2 4 6 41 ?_)
  refine vif ?_ ?_
  ·intro hc41
   try simp only [dn] at hc41
   refine vc_region ?_
   iterate 2 refine ym ?_
   refine yfz 1 underlying144 sizeOf9 ?_
   refine yl st 1 isAgg9 ?_
   refine vc_e (e_call [_,_] rfl rfl call134 rfl (guard_any wb tm lm p0 p1 p2 top loc _ _ (hw.kept st.chg)) ?_)
   rintro _ w ⟨rfl,cw⟩
   replace st:=st.call0 cw
   refine vc_e (e_bs1 (l:=[_]) st rfl rfl rfl rfl underlying44 sizeOf3 rfl rfl rfl zeroValue3 ?_)
   intro b48 w hb48 st
   refine vc_e (e_app (bytes:=8) st 1 0 rfl rfl rfl rfl rfl rfl underlying44 Tryz.info3 rfl rfl rfl rfl rfl (by simp) rfl rfl (by unfold maxLen;omega) (by omega) ?_)
   intro oa49 cap49 w st;dsimp only [setNth] at st
   refine ya ?_
   refine vc_end (vq_block ?_)
   refine vq_meet (oa49,cap49,[0,0]++[grdR top loc s.nm]) ⟨rfl,rfl,rfl,rfl,trivial⟩ (st.pick [1,2] rfl (by decide)) ?_
   ·have q1:=varR_pos top loc s.nm false
    have q2:=varR_pos top loc s.other true
    have q3:=grdR_pos top loc s.nm
    refine⟨by simp,by simp,by intro x hx;simp only [List.cons_append,List.nil_append,List.mem_cons,List.not_mem_nil,or_false] at hx;omega,?_⟩
    unfold nmsOk vaV vaW vaG
    simp only [decide_eq_true_eq]
    constructor
    ·intro h
     simp only [List.cons_append,List.nil_append,List.mem_cons,List.not_mem_nil,or_false,forall_eq_or_imp,forall_eq] at h
     refine⟨fun hk=>?_,fun hk=>?_,fun hk=>?_⟩ <;> omega
    ·intro ⟨h1,h2,h3⟩ x hx
     simp only [List.cons_append,List.nil_append,List.mem_cons,List.not_mem_nil,or_false] at hx
     omega
  intro hc41
  try simp only [dn] at hc41
  refine vc_code_skip (vq_block ?_)
  refine vq_meet (some ⟨b16,0,none⟩,2,[0,0]) ⟨rfl,rfl,rfl,rfl,trivial⟩ st ?_
  ·have q1:=varR_pos top loc s.nm false
   have q2:=varR_pos top loc s.other true
   have q3:=grdR_pos top loc s.nm
   refine⟨by simp,by simp,by intro x hx;simp only [List.cons_append,List.nil_append,List.mem_cons,List.not_mem_nil,or_false] at hx;omega,?_⟩
   unfold nmsOk vaV vaW vaG
   simp only [decide_eq_true_eq]
   constructor
   ·intro h
    simp only [List.cons_append,List.nil_append,List.mem_cons,List.not_mem_nil,or_false,forall_eq_or_imp,forall_eq] at h
    refine⟨fun hk=>?_,fun hk=>?_,fun hk=>?_⟩ <;> omega
   ·intro ⟨h1,h2,h3⟩ x hx
    simp only [List.cons_append,List.nil_append,List.mem_cons,List.not_mem_nil,or_false] at hx
    omega
 clear st
 rintro ⟨oy,cy,ly⟩ w ⟨hy1,hy2,hy3,hy4⟩ st
 dsimp only at hy1 hy2 hy3 hy4 st ⊢
 refine sr ?_
 refine yfz 6 underlying144 sizeOf3 ?_
 refine yl st 1 isAgg3 ?_
 refine ym ?_
 obtain⟨bq,cq,hbq,-⟩:=own_form (st.res (i:=0) rfl) (by omega)
 simp only [Value.slice.injEq] at hbq
 obtain⟨rfl,-⟩:=hbq
 refine vc_e (e_callp [_,_] rfl rfl call45 rfl (breaks_any _ ly hy3 bq _ _ (fun i v hi=>own_cell (st.res (i:=0) rfl) hi) hy2) (by rintro _ w' ⟨hno,hv,ch⟩ a ha;exact And.intro ha (Or.inr ⟨_,rfl,(by
     rw [← Bool.not_eq_true,ckS_iff]
     rintro ⟨g1,-⟩
     exact hno (hy4.2 g1)),hv,st.chg.trans ch⟩)) ?_)
 rintro _ w ⟨hz,cw⟩
 replace st:=st.call0 cw
 have hnm:=hy4.1 hz
 refine et (vk3 0 2 4 (vc_seq (sr ?_)))
 refine yfz 3 underlying144 sizeOf142 ?_
 refine yl st 1 isAgg142 ?_
 refine vy (y_lensl rfl underlying142) ?_
 refine ym ?_
 refine et (vk6 0 2 4 55 56 57 (vc_block ?_))
 refine vc_loop (w0:=w0) (M:=[]) (fun (j:Nat)=>[(0,.pointer (some ⟨wb,0,none⟩)),(2,.int .i64 (d:Int)),(4,.pointer (some ⟨b4,0,none⟩)),(55,.slice oe s.e.length ce),(56,.int .i64 (s.e.length:Int)),(57,.int .i64 (j:Int))]) (fun _=>[.blk b4 (.cells (smL s oe ob ol ce cb cl).toArray 144 (0,0))]) (fun j w'=>j≤s.e.length∧∀ x∈s.e.take j,ckE (vaV top loc) x 1=true) (fun j=>s.e.length - j) 0 ⟨rfl,rfl,rfl,rfl,rfl,rfl,trivial⟩ (st.pick [1] rfl (by decide)) ⟨by simp,by simp⟩ ?_
 clear st
 rintro j w ⟨hj,hall⟩ st
 refine sr ?_
 refine vy (y_lss rfl rfl) ?_
 refine et (vk7 0 2 4 55 56 57 58 (vc_seq ?_))
 refine vif ?_ ?_
 ·intro hc58
  try simp only [dn] at hc58
  have stK:=st
  have hj2:j<s.e.length:=by omega
  obtain⟨x,hx⟩:∃ x,s.e[j]?=some x:=⟨_,List.getElem?_eq_getElem hj2⟩
  obtain⟨gb,go,e0,hgS,hgl,hg⟩:=ExRow.at he (by omega)
  obtain⟨o0,c0,hV0,hr0,hc0⟩:=hg j x hx
  have hmx:=List.mem_of_getElem? hx
  subst e0
  have st:=stK
  refine kt (vk6 0 2 4 55 56 57 (vc_seq (vc_block (sr ?_))))
  refine vy (y_ia (k:=j) rfl rfl underlying142 sizeOf177 rfl (by omega)) ?_
  refine vy (y_ldca (exL x o0 c0) rfl isAgg177 sizeOf177 rfl (fun i v hi=>st.chg.cell (hc0 i v hi) (by simp))) ?_
  refine vc_e (e_al (l:=[_,_,_,_,_,_]) st rfl rfl zeroValue177 rfl ?_)
  intro b8 w hb8 st
  refine vc_e (ests st 0 [_,_,_,_,_,_] sizeOf177 ?_)
  intro w st;dsimp only [setNth,wr] at st
  refine et (vk7 0 2 4 8 55 56 57 (vc_region ?_))
  refine ym ?_
  refine yla st 0 [_,_,_,_,_,_] isAgg177 sizeOf177 ?_
  refine vc_e (e_callp [_,_,_] rfl rfl call135 rfl (cexpr_any n0 wb tm lm p0 p1 p2 top loc _ x rfl ⟨_,r1 x hmx⟩ 1 (by omega) _ _ (hV0.kept st.sm) (hw.kept st.chg)) (by rintro _ w' ⟨hno,hv,ch⟩ a ha;exact And.intro ha (Or.inr ⟨_,rfl,(by
      rw [← Bool.not_eq_true,ckS_iff]
      rintro ⟨-,g3,-⟩
      rw [g3 x hmx] at hno
      cases hno),hv,st.chg.trans ch⟩)) ?_)
  rintro _ w ⟨hck,cw⟩
  replace st:=st.call0 cw
  refine vc_end (vq_block (vq_then (vk6 0 2 4 55 56 57 (vc_region ?_))))
  refine vy (y_add rfl rfl (by omega:_=((j+1:Nat):Int)) (by omega) (by omega)) ?_
  refine ym ?_
  refine vc_end ?_
  refine vq_again (j+1)  ⟨rfl,rfl,rfl,rfl,rfl,rfl,trivial⟩ (st.pick [1] rfl (by decide)) ?_ ?_
  ·refine⟨by omega,fun y hy=>?_⟩
   rw [List.take_succ_eq_append_getElem hj2] at hy
   rcases List.mem_append.1 hy with hy|hy
   ·exact hall y hy
   ·simp only [List.mem_singleton] at hy
    rw [hy,(List.getElem?_eq_some_iff.1 hx).2];exact hck
  omega
 intro hc58
 try simp only [dn] at hc58
 have hj2:j=s.e.length:=by omega
 rw [hj2,List.take_length] at hall
 refine vc_exit (vq_then_exit (vq_then_exit (vq_block_exit (vq_then (vk3 0 2 4 (sr ?_))))))
 refine ym ?_
 refine yfz 4 underlying144 sizeOf48 ?_
 refine yl st 0 isAgg48 ?_
 refine ym ?_
 refine vy (y_add rfl rfl (by omega:_=((d+1:Nat):Int)) (by omega) (by omega)) ?_
 refine vc_e (e_callp [_,_,_] rfl rfl call106 rfl (hB (d+1) r3 (by omega) (fun h=>r5 h) o2 (by omega) _ _ _ (hb.kept st.sm) (hw.kept st.chg)) (by rintro _ w' ⟨hno,hv,ch⟩ a ha;exact And.intro ha (Or.inr ⟨_,rfl,(by
     rw [← Bool.not_eq_true,ckS_iff]
     rintro ⟨-,-,g3,-⟩
     rw [g3] at hno
     cases hno),hv,st.chg.trans ch⟩)) ?_)
 rintro _ w ⟨hbd,cw⟩
 replace st:=st.call0 cw
 refine et (vk3 0 2 4 (vc_region ?_))
 refine ym ?_
 refine yfz 5 underlying144 sizeOf48 ?_
 refine yl st 0 isAgg48 ?_
 refine ym ?_
 refine vy (y_add rfl rfl (by omega:_=((d+1:Nat):Int)) (by omega) (by omega)) ?_
 refine vc_e (e_callp [_,_,_] rfl rfl call106 rfl (hE (d+1) r4 (by omega) (fun h=>r6 h) o3 (by omega) _ _ _ (hl.kept st.sm) (hw.kept st.chg)) (by rintro _ w' ⟨hno,hv,ch⟩ a ha;exact And.intro ha (Or.inr ⟨_,rfl,(by
     rw [← Bool.not_eq_true,ckS_iff]
     rintro ⟨-,-,-,g3⟩
     rw [g3] at hno
     cases hno),hv,st.chg.trans ch⟩)) ?_)
 rintro _ w ⟨hels,cw⟩
 replace st:=st.call0 cw
 refine vc_end ?_
 refine vq_ret0 (.inr rfl) results125 ?_
 refine .inl ⟨_,rfl,?_⟩
 exact⟨ckS_iff.2 ⟨hnm,hall,hbd,hels⟩,st.chg⟩
set_option maxHeartbeats 1000000 in
theorem block_of (l:List Sm) (hS:∀ s∈l,StmP n0 wb tm lm p0 p1 p2 top loc s):BlkP n0 wb tm lm p0 p1 p2 top loc l:=by
 intro d hr hd1 hd64 hok hd65 oa c w hR hw
 have hlm:=hok.1
 refine retp_of [_,_,_] func106 rfl ntmps106 rfl ?_
 have st:=St.init w []
 obtain⟨w0,rfl⟩:∃ w0,w0=w:=⟨_,rfl⟩
 refine sr ?_
 refine ym ?_
 refine vy (y_lensl rfl underlying48) ?_
 refine ym ?_
 refine et (vk5 0 2 8 9 10 (vc_block ?_))
 refine vc_loop (w0:=w0) (M:=[]) (fun (j:Nat)=>[(0,.pointer (some ⟨wb,0,none⟩)),(2,.int .i64 (d:Int)),(8,.slice oa l.length c),(9,.int .i64 (l.length:Int)),(10,.int .i64 (j:Int))]) (fun _=>[]) (fun j w'=>j≤l.length∧∀ x∈l.take j,ckS (vaV top loc) (vaW top loc) (vaG top loc) x=true) (fun j=>l.length - j) 0 ⟨rfl,rfl,rfl,rfl,rfl,trivial⟩ st ⟨by simp,by simp⟩ ?_
 clear st
 rintro j w ⟨hj,hall⟩ st
 refine sr ?_
 refine vy (y_lss rfl rfl) ?_
 refine et (vk6 0 2 8 9 10 11 (vc_seq ?_))
 refine vif ?_ ?_
 ·intro hc11
  try simp only [dn] at hc11
  have stK:=st
  have hj2:j<l.length:=by omega
  obtain⟨s,hx⟩:∃ s,l[j]?=some s:=⟨_,List.getElem?_eq_getElem hj2⟩
  obtain⟨gb,go,rfl,hgS,hgl,hg⟩:=SmRow.at hR (by omega)
  obtain⟨oe,ob,ol,ce,cb,cl,hV0,-,-,-,hsc⟩:=hg j s hx
  have hmx:=List.mem_of_getElem? hx
  have hne:l≠[]:=fun e=>by rw [e] at hmx;simp at hmx
  have st:=stK
  refine kt (vk5 0 2 8 9 10 (vc_seq (vc_block (sr ?_))))
  refine vy (y_ia (k:=j) rfl rfl underlying48 sizeOf144 rfl (by omega)) ?_
  refine vy (y_ldca (smL s oe ob ol ce cb cl) rfl isAgg144 sizeOf144 rfl (fun i v hi=>st.chg.cell (hsc i v hi) (by simp))) ?_
  refine vc_e (e_al (l:=[_,_,_,_,_,_,_]) st rfl rfl zeroValue144 rfl ?_)
  intro b7 w hb7 st
  refine vc_e (ests st 0 [_,_,_,_,_,_,_] sizeOf144 ?_)
  intro w st;dsimp only [setNth,wr] at st
  refine et (vk6 0 2 7 8 9 10 (vc_region ?_))
  refine ym ?_
  refine yla st 0 [_,_,_,_,_,_,_] isAgg144 sizeOf144 ?_
  refine ym ?_
  refine vc_e (e_callp [_,_,_] rfl rfl call125 rfl (hS s hmx d (rightSs_mem hr s hmx) hd1 (hd64 hne) (hok.2 j s hx) _ _ (hV0.kept st.sm) (hw.kept st.chg)) (by rintro _ w' ⟨hno,hv,ch⟩ a ha;exact And.intro ha (Or.inr ⟨_,rfl,(by
      rw [← Bool.not_eq_true,ckSs_all]
      intro g3
      rw [g3 s hmx] at hno
      cases hno),hv,st.chg.trans ch⟩)) ?_)
  rintro _ w ⟨hck,cw⟩
  replace st:=st.call0 cw
  refine vc_end (vq_block (vq_then (vk5 0 2 8 9 10 (vc_region ?_))))
  refine vy (y_add rfl rfl (by omega:_=((j+1:Nat):Int)) (by omega) (by omega)) ?_
  refine ym ?_
  refine vc_end ?_
  refine vq_again (j+1)  ⟨rfl,rfl,rfl,rfl,rfl,trivial⟩ (st.drop (by simp)) ?_ ?_
  ·refine⟨by omega,fun y hy=>?_⟩
   rw [List.take_succ_eq_append_getElem hj2] at hy
   rcases List.mem_append.1 hy with hy|hy
   ·exact hall y hy
   ·simp only [List.mem_singleton] at hy
    rw [hy,(List.getElem?_eq_some_iff.1 hx).2];exact hck
  omega
 intro hc11
 try simp only [dn] at hc11
 have hj2:j=l.length:=by omega
 rw [hj2,List.take_length] at hall
 refine vc_exit (vq_then_exit (vq_then_exit (vq_block_exit ?_)))
 refine vq_ret0 (.inr rfl) results106 ?_
 refine .inl ⟨_,rfl,?_⟩
 exact⟨ckSs_all.2 hall,st.chg⟩
mutual
theorem stmt_any:∀ (s:Sm),StmP n0 wb tm lm p0 p1 p2 top loc s
 | .mk k nm other e body els a=>stmt_of _ (block_of _ (stmts_any body)) (block_of _ (stmts_any els))
termination_by structural s=>s
theorem stmts_any:∀ (l:List Sm),∀ s∈l,StmP n0 wb tm lm p0 p1 p2 top loc s
 | [],s,hs=>by simp at hs
 | x::r,s,hs=>by
  by_cases h:s=x
  ·rw [h];exact stmt_any x
  ·exact stmts_any r s ((List.mem_cons.1 hs).resolve_left h)
termination_by structural l=>l
end
theorem cblock_any (l:List Sm):BlkP n0 wb tm lm p0 p1 p2 top loc l:=block_of l (stmts_any l)
end
end Go.Proofs.YtkhpdpenlnhbiaaGreatDoor
/- The engine: what a map with known entries gives,in any order. -/
namespace Sx
open Go Go.RowKit
section
variable {P:Program} {n:Fr} {kn:Kn} {w w0:World} {M:List Nat} {hs:List Res}
variable {d ty:Nat} {pos:String} {aft:Array Edge} {g:Option (Nat×Bool)}
theorem y_lkF1 (st:St w0 M hs w) (i:Nat) {T k e b:Nat} {x y:Operand} {s:List UInt8} {z v:Value} {kvs:List (List UInt8×Value)} (hx:evO kn x=some (.map (some b))) (hy:evO kn y=some (str s))
    (hi:nth hs i=some (.blk b (mapF kvs))) (ht:P.underlying T=some (.map k e)) (hk:P.underlying k=some .string) (hz:∀ w,(zeroValue e).run P w=.ok z w) (hv:(getF kvs s).getD z=v) :
    Y P n kn w ⟨some d,.lookup T x y false,ty,pos,aft,g⟩ v:=fun a ha=>by
  subst hv
  have hb:w.heap[b]?=some (mapF kvs):=st.res hi
  obtain⟨m,hf⟩:=findNow_F s kvs 0 0
  have hfk:=findKey_str (P:=P) hk hf w
  have hrun:(Instr.lookup T (.map (some b)) (str s) false).run P w=.ok ((getF kvs s).getD z) w:=by
    cases hg:getF kvs s with
    | none=>
      rw [hg] at hfk
      simp [Instr.lookup,getObj,Sem.run_bind,underlying,Sem.run,ht,hb,Result.andThen,checkKey_str hk,hfk,hz]
    | some u=>
      rw [hg] at hfk
      simp [Instr.lookup,getObj,Sem.run_bind,underlying,Sem.run,ht,hb,Result.andThen,checkKey_str hk,hfk]
  simp only [execOp,ha.ev hx,ha.ev hy,Sem.run_bind,hrun,Result.andThen_ok];rfl
end
end Sx
