/- A part of the proof: contracts of functions and plain laws; each theorem says its own conditions. -/
import Derived.Test.YtkhpdpenlnhbiaaGreatDoorTopLoweredK7
import Derived.Test.YtkhpdpenlnhbiaaGreatDoorTopLoweredK23
import Derived.Test.YtkhpdpenlnhbiaaGreatDoorTopLoweredK2
namespace Go.Proofs.YtkhpdpenlnhbiaaGreatDoor
open Go.RowKit Sx LexS ParS _root_.Go.Proofs.Tryz
set_option linter.unusedVariables false
set_option linter.unusedSimpArgs false
theorem st3 {w0 w:World} {M:List Nat} {a b c:Nat} {p1 p2 p3:Obj} (ch:Chg M w0 w) (nd:[a,b,c].Nodup) (h1:w.heap[a]?=some p1) (h2:w.heap[b]?=some p2) (h3:w.heap[c]?=some p3):St w0 M [.blk a p1,.blk b p2,.blk c p3] w:=by
 simp only [List.nodup_cons,List.mem_cons,List.not_mem_nil,or_false,not_or,List.nodup_nil,and_true] at nd
 exact(((⟨ch,List.Pairwise.nil,by simp⟩:St w0 M [] w).addB h3 (by simp)).addB h2 (by simp [blk_at];omega)).addB h1 (by simp [blk_at];omega)
def BrkM (M:List Nat) (w:World) (v:Value) (w':World):Prop:=(∃ p r:Int,v=.iface 126 (.agg #[.int .i64 p,.int .i64 r]))∧Chg M w w'
abbrev Brk:=BrkM []
theorem nth_num {l:List Int} {j:Nat} (h:j<l.length):nth (l.map iV) (j*1)=some (iV (l[j])):=by rw [nth_eq,Nat.mul_one,List.getElem?_map,List.getElem?_eq_getElem h];rfl
theorem brk_step {l:List Int} {j:Nat} {t t':Int} (hz:t=0↔∀ x∈l.take j,x=0) (hj:j<l.length) (h:t'=0↔t=0∧l[j]=0):t'=0↔∀ x∈l.take (j+1),x=0:=by
 rw [h,hz]
 constructor
 ·rintro ⟨h1,h2⟩ x hx
  rw [List.take_succ_eq_append_getElem hj] at hx
  rcases List.mem_append.1 hx with hx|hx
  ·exact h1 x hx
  ·simp only [List.mem_singleton] at hx;rw [hx];exact h2
 ·intro h1
  refine⟨fun x hx=>h1 x ?_,h1 _ ?_⟩
  ·rw [List.take_succ_eq_append_getElem hj];exact List.mem_append.2 (.inl hx)
  rw [List.take_succ_eq_append_getElem hj];exact List.mem_append.2 (.inr (.head _))
theorem when_any (r:Int) (b:Bool) (w:World):Ret Tryz.prog 46 [.int .i64 r,.bool b] w fun v w'=>v=.int .i64 (if b=true then r else 0)∧w'=w:=by
 refine ret_of [_,_] func46 rfl ntmps46 rfl ?_
 have st:=St.init w []
 refine sr ?_
 refine ya ?_
 refine et (vk2 0 1 (vc_seq (sr ?_)))
 refine ym ?_
 refine et (vk2 0 5 ?_)
 refine vif ?_ ?_
 ·intro hc5
  try simp only [dn] at hc5
  refine sr ?_
  refine ym ?_
  refine ya ?_
  refine et (vk1 4 (vc_ret (vq_then_ret ?_)))
  refine vr1 st results46 ?_
  refine⟨?_,rfl⟩
  rw [if_pos hc5]
 intro hc5
 try simp only [dn] at hc5
 refine kt (vc_keep [] trivial (sr ?_))
 refine ya ?_
 refine et (vk1 4 (vc_ret ?_))
 refine vr1 st results46 ?_
 refine⟨?_,rfl⟩
 rw [if_neg (by rw [hc5];simp)]
theorem breaks_any (at_:Int) (l:List Int) (h0:∀ x∈l,0≤x) (b c:Nat) (w:World) (hb:∀ (i:Nat) v,(l.map iV)[i]?=some v→w.cell? ⟨b,i,none⟩=some v) (hlen:l.length≤100):RetP Tryz.prog 45 [.int .i64 at_,.slice (some ⟨b,0,none⟩) l.length c] w (fun v w'=>(∀ x∈l,x=0)∧Chg [] w w') (fun v w'=>(¬ ∀ x∈l,x=0)∧Brk w v w'):=by
 refine retp_of [_,_] func45 rfl ntmps45 rfl ?_
 have st:=St.init w []
 obtain⟨w0,rfl⟩:∃ w0,w0=w:=⟨_,rfl⟩
 refine sr ?_
 refine ya ?_
 refine et (vk3 0 1 4 (vc_seq (sr ?_)))
 refine ym ?_
 refine vy (y_lensl rfl underlying44) ?_
 refine ym ?_
 refine et (vk5 0 4 7 8 9 (vc_block ?_))
 refine vc_loop (w0:=w0) (M:=[]) (fun (x:Nat×Int)=>[(0,.int .i64 at_),(4,.int .i64 x.2),(7,.slice (some ⟨b,0,none⟩) l.length c),(8,.int .i64 (l.length:Int)),(9,.int .i64 (x.1:Int))]) (fun _=>[]) (fun x w'=>x.1≤l.length∧0≤x.2∧(x.2=0↔∀ y∈l.take x.1,y=0)) (fun x=>l.length - x.1) (0,0) ⟨rfl,rfl,rfl,rfl,rfl,trivial⟩ st ⟨by simp,by simp,by simp⟩ ?_
 clear st
 rintro ⟨j,t⟩ w ⟨hj,ht,hz⟩ st
 dsimp only at hj ht hz ⊢
 refine sr ?_
 refine vy (y_lss rfl rfl) ?_
 refine et (vk6 0 4 7 8 9 10 (vc_seq ?_))
 refine vif ?_ ?_
 ·intro hc10
  try simp only [dn] at hc10
  have hjl:j<l.length:=by omega
  have hx0:=h0 _ (List.getElem_mem hjl)
  refine kt (vk5 0 4 7 8 9 (vc_seq (vc_block (sr ?_))))
  refine vy (y_ia0 (k:=j) rfl rfl underlying44 sizeOf3 rfl (by omega)) ?_
  refine vy ((by exact y_ldc rfl isAgg3 (st.chg.cell (hb (j*1) (iV (l[j])) (by rw [← nth_eq];exact nth_num hjl)) (by simp)))) ?_
  refine ya ?_
  refine et (vk6 0 4 6 7 8 9 (sr ?_))
  refine ym ?_
  refine vy (y_gtr rfl rfl) ?_
  refine vmb ?_ ?_
  focus
   intro hg15
   try simp only [dn] at hg15
   refine ym ?_
   refine vy (y_eqi rfl rfl) ?_
   refine vmb ?_ ?_
   intro hg18
   try simp only [dn] at hg18
   iterate 3 refine vsk ?_
   iterate 2 refine ypt ?_
   refine et (vk7 0 4 6 7 8 9 23 ?_)
   refine vc_ift rfl ?_
   refine vc_region ?_
   refine ym ?_
   refine ya ?_
   refine vc_end ?_
   rotate_left
   focus
    intro hg18
    try simp only [dn] at hg18
    iterate 2 refine ym ?_
    refine vy (y_lss rfl rfl) ?_
    refine ypf ?_
    refine ypt ?_
    refine et (vk7 0 4 6 7 8 9 23 ?_)
    refine vif ?_ ?_
    intro hc23
    try simp only [dn] at hc23
    refine vc_region ?_
    refine ym ?_
    refine ya ?_
    refine vc_end ?_
    rotate_left
    intro hc23
    try simp only [dn] at hc23
    refine vc_code_skip ?_
  rotate_left 3
  intro hg15
  try simp only [dn] at hg15
  iterate 7 refine vsk ?_
  refine ypf ?_
  refine et (vk7 0 4 6 7 8 9 23 ?_)
  refine vc_iff rfl ?_
  refine vc_code_skip ?_
  all_goals
   refine vq_block (vq_then (vk5 0 4 7 8 9 (vc_region ?_)))
   refine vy (y_add rfl rfl (by omega:_=((j+1:Nat):Int)) (by omega) (by omega)) ?_
   refine ym ?_
   refine vc_end ?_
   refine vq_again (j+1,_)  ⟨rfl,rfl,rfl,rfl,rfl,trivial⟩ st ?_ ?_
   ·refine⟨by dsimp only;omega,?_,brk_step hz hjl ?_⟩
    ·dsimp only;omega
    ·dsimp only;constructor <;> intro <;> omega
   ·dsimp only;omega
 intro hc10
 try simp only [dn] at hc10
 have hjl:j=l.length:=by omega
 rw [hjl,List.take_length] at hz
 refine vc_exit (vq_then_exit (vq_then_exit (vq_block_exit (vq_then (vk2 0 4 (sr ?_))))))
 refine ym ?_
 refine vy (y_gtr rfl rfl) ?_
 refine et (vk3 0 4 27 ?_)
 refine vif ?_ ?_
 ·intro hc27
  try simp only [dn] at hc27
  refine vc_region ?_
  iterate 2 refine ym ?_
  refine vy (ybd (.agg #[_,_]) [(0,_),(1,_)]) ?_
  refine vy (ybd (.agg #[_,_]) [(0,_)]) ?_
  refine vy (y_mki rfl underlying126) ?_
  refine vc_e (e_panicI rfl rfl (by intro a ha;exact And.intro ha (Or.inr ⟨_,rfl,⟨fun h=>by have:=hz.2 h;omega,⟨_,_,rfl⟩,st.chg⟩⟩)))
 intro hc27
 try simp only [dn] at hc27
 refine vc_code_skip ?_
 refine vq_ret0 (.inr rfl) results45 ?_
 refine .inl ⟨_,rfl,?_⟩
 exact⟨hz.1 (by omega),st.chg⟩
structure Wk (wb tm lm:Nat) (p0 p1 p2:Value) (top:Wd→Int) (loc:Wd→Bool) (w:World):Prop where
 cell:w.heap[wb]?=some (.cells [p0,p1,p2,.map (some tm),.map (some lm)].toArray 132 (0,0))
 tp:∃ kv,w.heap[tm]?=some (mapF kv)∧∀ s,(getF kv s).getD (.int .i64 0)=.int .i64 (top s)
 lc:∃ kv,w.heap[lm]?=some (mapF kv)∧∀ s,(getF kv s).getD (.int .i64 0)=.int .i64 (if loc s=true then 1 else 0)
 nd:[wb,tm,lm].Nodup
theorem Wk.kept {wb tm lm:Nat} {p0 p1 p2:Value} {top:Wd→Int} {loc:Wd→Bool} {w w':World} (h:Wk wb tm lm p0 p1 p2 top loc w) (c:Chg [] w w'):Wk wb tm lm p0 p1 p2 top loc w':=by
 obtain⟨h1,⟨k1,h2,h3⟩,⟨k2,h4,h5⟩,h6⟩:=h
 exact⟨c.heap h1 (by simp),⟨k1,c.heap h2 (by simp),h3⟩,⟨k2,c.heap h4 (by simp),h5⟩,h6⟩
def varR (top:Wd→Int) (loc:Wd→Bool) (nm:Wd) (alone:Bool):Int:=if loc nm=true then (if alone=true then 6 else 0) else if top nm=0 then 5 else if top nm=1 then 0 else 6
def grdR (top:Wd→Int) (loc:Wd→Bool) (nm:Wd):Int:=if loc nm=true then 6 else if top nm=0 then 5 else if top nm=2 then 0 else 6
theorem variable_any (wb tm lm:Nat) (p0 p1 p2:Value) (top:Wd→Int) (loc:Wd→Bool) (nm:Wd) (alone:Bool) (w:World) (hw:Wk wb tm lm p0 p1 p2 top loc w):Ret Tryz.prog 133 [.pointer (some ⟨wb,0,none⟩),str nm,.bool alone] w fun v w'=>v=.int .i64 (varR top loc nm alone)∧Chg [] w w':=by
 refine ret_of [_,_,_] func133 rfl ntmps133 rfl ?_
 have st:=St.init w []
 obtain⟨hc0,⟨ktt,ht1,ht2⟩,⟨kl,hl1,hl2⟩,hnd⟩:=hw
 obtain⟨w0,rfl⟩:∃ w0,w0=w:=⟨_,rfl⟩
 replace st:=st3 (Chg.refl [] _) hnd hc0 ht1 hl1
 refine sr ?_
 refine ya ?_
 refine et (vk3 0 1 2 (vc_seq (vc_block (sr ?_))))
 refine ym ?_
 refine ynk ?_
 refine yfz 4 underlying132 sizeOf130 ?_
 refine yl st 0 isAgg130 ?_
 refine ym ?_
 refine vc_e (e_lkF1 (z:=.int .i64 0) st 2 rfl rfl rfl rfl rfl underlying130 underlying9 zeroValue3 ?_)
 rw [hl2]
 refine vy (y_gtr rfl rfl) ?_
 refine ya ?_
 refine et (vk4 0 1 2 7 ?_)
 refine vif ?_ ?_
 intro hc7
 try simp only [dn] at hc7
 refine sr ?_
 refine ym ?_
 refine vc_e (e_call [_,_] rfl rfl call46 rfl (when_any _ _ _) ?_)
 rintro _ _ ⟨rfl,rfl⟩
 refine ya ?_
 refine et (vk1 6 (vc_ret (vq_block_ret (vq_then_ret ?_))))
 rotate_left
 focus
  intro hc7
  try simp only [dn] at hc7
  refine sr ?_
  refine ym ?_
  refine ynk ?_
  refine yfz 3 underlying132 sizeOf128 ?_
  refine yl st 0 isAgg128 ?_
  refine ym ?_
  refine vc_e (e_lkF1 (z:=.int .i64 0) st 1 rfl rfl rfl rfl rfl underlying128 underlying9 zeroValue169 ?_)
  rw [ht2]
  refine vy (y_eqi rfl rfl) ?_
  refine ya ?_
  refine et (vk3 0 1 17 ?_)
  refine vif ?_ ?_
  intro hc17
  try simp only [dn] at hc17
  refine sr ?_
  refine ya ?_
  refine et (vk1 6 (vc_ret (vq_block_ret (vq_then_ret ?_))))
  rotate_left
  intro hc17
  try simp only [dn] at hc17
  refine vc_code_skip (vq_block (vq_then (vk2 0 1 (sr ?_))))
  refine ym ?_
  refine ynk ?_
  refine yfz 3 underlying132 sizeOf128 ?_
  refine yl st 0 isAgg128 ?_
  refine ym ?_
  refine vc_e (e_lkF1 (z:=.int .i64 0) st 1 rfl rfl rfl rfl rfl underlying128 underlying9 zeroValue169 ?_)
  rw [ht2]
  refine vy (y_nei rfl rfl) ?_
  refine vc_e (e_call [_,_] rfl rfl call46 rfl (when_any _ _ _) ?_)
  rintro _ _ ⟨rfl,rfl⟩
  refine ya ?_
  refine et (vk1 6 (vc_ret ?_))
 all_goals
  refine vr1 st results133 ?_
  refine⟨?_,st.chg⟩
  show Value.int _ _=Value.int _ _
  congr 1
  unfold varR
  by_cases hlc:loc nm=true <;> simp_all <;> (try split) <;> first|rfl|omega|(exfalso;omega)
theorem guard_any (wb tm lm:Nat) (p0 p1 p2:Value) (top:Wd→Int) (loc:Wd→Bool) (nm:Wd) (w:World) (hw:Wk wb tm lm p0 p1 p2 top loc w):Ret Tryz.prog 134 [.pointer (some ⟨wb,0,none⟩),str nm] w fun v w'=>v=.int .i64 (grdR top loc nm)∧Chg [] w w':=by
 refine ret_of [_,_] func134 rfl ntmps134 rfl ?_
 have st:=St.init w []
 obtain⟨hc0,⟨ktt,ht1,ht2⟩,⟨kl,hl1,hl2⟩,hnd⟩:=hw
 obtain⟨w0,rfl⟩:∃ w0,w0=w:=⟨_,rfl⟩
 replace st:=st3 (Chg.refl [] _) hnd hc0 ht1 hl1
 refine sr ?_
 refine ya ?_
 refine et (vk2 0 1 (vc_seq (sr ?_)))
 refine ym ?_
 refine ynk ?_
 refine yfz 3 underlying132 sizeOf128 ?_
 refine yl st 0 isAgg128 ?_
 refine ym ?_
 refine vc_e (e_lkF1 (z:=.int .i64 0) st 1 rfl rfl rfl rfl rfl underlying128 underlying9 zeroValue169 ?_)
 rw [ht2]
 refine vy (y_eqi rfl rfl) ?_
 refine vmb ?_ ?_
 focus
  intro hg12
  try simp only [dn] at hg12
  refine ym ?_
  refine ynk ?_
  refine yfz 4 underlying132 sizeOf130 ?_
  refine yl st 0 isAgg130 ?_
  refine ym ?_
  refine vc_e (e_lkF1 (z:=.int .i64 0) st 2 rfl rfl rfl rfl rfl underlying130 underlying9 zeroValue3 ?_)
  rw [hl2]
  refine vy (y_eqi rfl rfl) ?_
  refine ypt ?_
  refine et (vk3 0 1 20 ?_)
  refine vif ?_ ?_
  intro hc20
  try simp only [dn] at hc20
  refine sr ?_
  refine ya ?_
  refine et (vk1 4 (vc_ret (vq_then_ret ?_)))
  rotate_left
  focus
   intro hc20
   try simp only [dn] at hc20
   refine kt (vk2 0 1 (sr ?_))
   refine ym ?_
   refine ynk ?_
   refine yfz 4 underlying132 sizeOf130 ?_
   refine yl st 0 isAgg130 ?_
   refine ym ?_
   refine vc_e (e_lkF1 (z:=.int .i64 0) st 2 rfl rfl rfl rfl rfl underlying130 underlying9 zeroValue3 ?_)
   rw [hl2]
   refine vy (y_gtr rfl rfl) ?_
   refine vmb ?_ ?_
   intro hg28
   try simp only [dn] at hg28
   iterate 7 refine vsk ?_
   refine ypt ?_
   rotate_left
   intro hg28
   try simp only [dn] at hg28
   refine ym ?_
   refine ynk ?_
   refine yfz 3 underlying132 sizeOf128 ?_
   refine yl st 0 isAgg128 ?_
   refine ym ?_
   refine vc_e (e_lkF1 (z:=.int .i64 0) st 1 rfl rfl rfl rfl rfl underlying128 underlying9 zeroValue169 ?_)
   rw [ht2]
   refine vy (y_nei rfl rfl) ?_
   refine ypf ?_
   all_goals
    refine vc_e (e_call [_,_] rfl rfl call46 rfl (when_any _ _ _) ?_)
    rintro _ _ ⟨rfl,rfl⟩
    refine ya ?_
    refine et (vk1 4 (vc_ret ?_))
 rotate_left 3
 focus
  intro hg12
  try simp only [dn] at hg12
  iterate 7 refine vsk ?_
  refine ypf ?_
  refine et (vk3 0 1 20 ?_)
  refine vc_iff rfl ?_
  refine kt (vk2 0 1 (sr ?_))
  refine ym ?_
  refine ynk ?_
  refine yfz 4 underlying132 sizeOf130 ?_
  refine yl st 0 isAgg130 ?_
  refine ym ?_
  refine vc_e (e_lkF1 (z:=.int .i64 0) st 2 rfl rfl rfl rfl rfl underlying130 underlying9 zeroValue3 ?_)
  rw [hl2]
  refine vy (y_gtr rfl rfl) ?_
  refine vmb ?_ ?_
  intro hg28
  try simp only [dn] at hg28
  iterate 7 refine vsk ?_
  refine ypt ?_
  rotate_left
  intro hg28
  try simp only [dn] at hg28
  refine ym ?_
  refine ynk ?_
  refine yfz 3 underlying132 sizeOf128 ?_
  refine yl st 0 isAgg128 ?_
  refine ym ?_
  refine vc_e (e_lkF1 (z:=.int .i64 0) st 1 rfl rfl rfl rfl rfl underlying128 underlying9 zeroValue169 ?_)
  rw [ht2]
  refine vy (y_nei rfl rfl) ?_
  refine ypf ?_
  all_goals
   refine vc_e (e_call [_,_] rfl rfl call46 rfl (when_any _ _ _) ?_)
   rintro _ _ ⟨rfl,rfl⟩
   refine ya ?_
   refine et (vk1 4 (vc_ret ?_))
 all_goals
  refine vr1 st results134 ?_
  refine⟨?_,st.chg⟩
  show Value.int _ _=Value.int _ _
  congr 1
  unfold grdR
  by_cases hlc:loc nm=true <;> simp_all <;> (try split) <;> first|rfl|omega|(exfalso;omega)
theorem fits_any (e:Ex) (d:Nat) (hr:rightE e d=true) (oa:Option Addr) (cap:Nat) (w:World):Ret Tryz.prog 145 [.agg (exL e oa cap).toArray] w fun v w'=>v=.bool true∧Chg [] w w':=by
 refine ret_of [_] func145 rfl ntmps145 rfl ?_
 have st:=St.init w []
 have hr2:=(rightE_iff.1 hr).2
 clear hr
 refine sr ?_
 refine vc_e (e_bx (l:=[_,_,_,_,_,_]) st rfl rfl rfl rfl ?_)
 intro b1 w hb1 st
 refine ya ?_
 refine et (vk1 1 (vc_seq (sr ?_)))
 refine vy (y_fa0 rfl underlying177 rfl rfl sizeOf175 rfl) ?_
 refine yl st 0 isAgg175 ?_
 refine et (vk2 1 4 (vc_block (sr ?_)))
 refine vy (y_eqi rfl rfl) ?_
 refine ya ?_
 refine et (vk3 1 4 5 ?_)
 refine vif ?_ ?_
 focus
  intro hc5
  try simp only [dn] at hc5
  refine sr ?_
  refine yfz 2 underlying177 sizeOf2 ?_
  refine yl st 0 isAgg2 ?_
  refine vy (y_geq rfl rfl) ?_
  refine vmb ?_ ?_
  focus
   intro hg10
   try simp only [dn] at hg10
   refine yfz 1 underlying177 sizeOf57 ?_
   refine yl st 0 isAgg57 ?_
   refine vy (y_eqi rfl rfl) ?_
   refine ypt ?_
   refine vmb ?_ ?_
   focus
    intro hg15
    try simp only [dn] at hg15
    refine yfz 3 underlying177 sizeOf9 ?_
    refine yl st 0 isAgg9 ?_
    refine vy (y_eqs rfl rfl) ?_
    refine ypt ?_
    refine vmb ?_ ?_
    intro hg20
    try simp only [dn] at hg20
    refine yfz 4 underlying177 sizeOf142 ?_
    refine yl st 0 isAgg142 ?_
    refine vy (y_lensl rfl underlying142) ?_
    refine vy (y_eqi rfl rfl) ?_
    refine ypt ?_
    rotate_left
    intro hg20
    try simp only [dn] at hg20
    iterate 4 refine vsk ?_
    refine ypf ?_
   rotate_left 2
   intro hg15
   try simp only [dn] at hg15
   iterate 3 refine vsk ?_
   refine ypf ?_
   refine ym ?_
   iterate 4 refine vsk ?_
   refine ypf ?_
  rotate_left 3
  intro hg10
  try simp only [dn] at hg10
  iterate 3 refine vsk ?_
  refine ypf ?_
  refine ym ?_
  iterate 3 refine vsk ?_
  refine ypf ?_
  refine ym ?_
  iterate 4 refine vsk ?_
  refine ypf ?_
  all_goals
   refine ya ?_
   refine et (vk1 2 (vc_ret (vq_block_ret (vq_then_ret ?_))))
 rotate_left 4
 focus
  intro hc5
  try simp only [dn] at hc5
  refine sr ?_
  refine vy (y_eqi rfl rfl) ?_
  refine ya ?_
  refine et (vk3 1 4 26 ?_)
  refine vif ?_ ?_
  focus
   intro hc26
   try simp only [dn] at hc26
   refine sr ?_
   refine yfz 2 underlying177 sizeOf2 ?_
   refine yl st 0 isAgg2 ?_
   refine vy (y_eqi rfl rfl) ?_
   refine vmb ?_ ?_
   focus
    intro hg31
    try simp only [dn] at hg31
    refine yfz 1 underlying177 sizeOf57 ?_
    refine yl st 0 isAgg57 ?_
    refine vy (y_eqi rfl rfl) ?_
    refine ypt ?_
    refine vmb ?_ ?_
    intro hg36
    try simp only [dn] at hg36
    refine yfz 4 underlying177 sizeOf142 ?_
    refine yl st 0 isAgg142 ?_
    refine vy (y_lensl rfl underlying142) ?_
    refine vy (y_eqi rfl rfl) ?_
    refine ypt ?_
    rotate_left
    intro hg36
    try simp only [dn] at hg36
    iterate 4 refine vsk ?_
    refine ypf ?_
   rotate_left 2
   intro hg31
   try simp only [dn] at hg31
   iterate 3 refine vsk ?_
   refine ypf ?_
   refine ym ?_
   iterate 4 refine vsk ?_
   refine ypf ?_
   all_goals
    refine ya ?_
    refine et (vk1 2 (vc_ret (vq_block_ret (vq_then_ret ?_))))
  rotate_left 3
  focus
   intro hc26
   try simp only [dn] at hc26
   refine sr ?_
   refine vy (y_eqi rfl rfl) ?_
   refine ya ?_
   refine et (vk3 1 4 42 ?_)
   refine vif ?_ ?_
   focus
    intro hc42
    try simp only [dn] at hc42
    refine sr ?_
    refine yfz 2 underlying177 sizeOf2 ?_
    refine yl st 0 isAgg2 ?_
    refine vy (y_eqi rfl rfl) ?_
    refine vmb ?_ ?_
    focus
     intro hg47
     try simp only [dn] at hg47
     refine yfz 3 underlying177 sizeOf9 ?_
     refine yl st 0 isAgg9 ?_
     refine vy (y_eqs rfl rfl) ?_
     refine ypt ?_
     refine vmb ?_ ?_
     focus
      intro hg52
      try simp only [dn] at hg52
      refine yfz 1 underlying177 sizeOf57 ?_
      refine yl st 0 isAgg57 ?_
      refine vy (y_eqi rfl rfl) ?_
      refine vmb ?_ ?_
      intro hg56
      try simp only [dn] at hg56
      iterate 3 refine vsk ?_
      iterate 2 refine ypt ?_
      refine ym ?_
      refine yfz 4 underlying177 sizeOf142 ?_
      refine yl st 0 isAgg142 ?_
      refine vy (y_lensl rfl underlying142) ?_
      refine vy (y_eqi rfl rfl) ?_
      refine ypt ?_
      rotate_left
      focus
       intro hg56
       try simp only [dn] at hg56
       refine yfz 1 underlying177 sizeOf57 ?_
       refine yl st 0 isAgg57 ?_
       refine vy (y_eqi rfl rfl) ?_
       refine ypf ?_
       refine ypt ?_
       refine vmb ?_ ?_
       intro hg62
       try simp only [dn] at hg62
       refine yfz 4 underlying177 sizeOf142 ?_
       refine yl st 0 isAgg142 ?_
       refine vy (y_lensl rfl underlying142) ?_
       refine vy (y_eqi rfl rfl) ?_
       refine ypt ?_
       rotate_left
       intro hg62
       try simp only [dn] at hg62
       iterate 4 refine vsk ?_
       refine ypf ?_
     rotate_left 3
     intro hg52
     try simp only [dn] at hg52
     iterate 8 refine vsk ?_
     refine ypf ?_
     refine ym ?_
     iterate 4 refine vsk ?_
     refine ypf ?_
    rotate_left 4
    intro hg47
    try simp only [dn] at hg47
    iterate 3 refine vsk ?_
    refine ypf ?_
    refine ym ?_
    iterate 8 refine vsk ?_
    refine ypf ?_
    refine ym ?_
    iterate 4 refine vsk ?_
    refine ypf ?_
    all_goals
     refine ya ?_
     refine et (vk1 2 (vc_ret (vq_block_ret (vq_then_ret ?_))))
   rotate_left 5
   focus
    intro hc42
    try simp only [dn] at hc42
    refine sr ?_
    refine vy (y_eqi rfl rfl) ?_
    refine ya ?_
    refine et (vk2 1 68 ?_)
    refine vif ?_ ?_
    focus
     intro hc68
     try simp only [dn] at hc68
     refine sr ?_
     refine yfz 2 underlying177 sizeOf2 ?_
     refine yl st 0 isAgg2 ?_
     refine vy (y_eqi rfl rfl) ?_
     refine vmb ?_ ?_
     focus
      intro hg73
      try simp only [dn] at hg73
      refine yfz 3 underlying177 sizeOf9 ?_
      refine yl st 0 isAgg9 ?_
      refine vy (y_eqs rfl rfl) ?_
      refine ypt ?_
      refine vmb ?_ ?_
      focus
       intro hg78
       try simp only [dn] at hg78
       refine yfz 1 underlying177 sizeOf57 ?_
       refine yl st 0 isAgg57 ?_
       refine vc_e (e_call [_] rfl rfl call33 rfl (two_any _ _) ?_)
       rintro _ _ ⟨rfl,rfl⟩
       refine ypt ?_
       refine vmb ?_ ?_
       intro hg83
       try simp only [dn] at hg83
       refine yfz 4 underlying177 sizeOf142 ?_
       refine yl st 0 isAgg142 ?_
       refine vy (y_lensl rfl underlying142) ?_
       refine vy (y_eqi rfl rfl) ?_
       refine ypt ?_
       rotate_left
       intro hg83
       try simp only [dn] at hg83
       iterate 4 refine vsk ?_
       refine ypf ?_
      rotate_left 2
      intro hg78
      try simp only [dn] at hg78
      iterate 3 refine vsk ?_
      refine ypf ?_
      refine ym ?_
      iterate 4 refine vsk ?_
      refine ypf ?_
     rotate_left 3
     intro hg73
     try simp only [dn] at hg73
     iterate 3 refine vsk ?_
     refine ypf ?_
     refine ym ?_
     iterate 3 refine vsk ?_
     refine ypf ?_
     refine ym ?_
     iterate 4 refine vsk ?_
     refine ypf ?_
     all_goals
      refine ya ?_
      refine et (vk1 2 (vc_ret (vq_block_ret (vq_then_ret ?_))))
    rotate_left 4
    intro hc68
    try simp only [dn] at hc68
    refine vc_code_skip (vq_block (vq_then (vc_keep [] trivial (sr ?_))))
    refine ya ?_
    refine et (vk1 2 (vc_ret ?_))
 all_goals
  refine vr1 st results145 ?_
  refine⟨?_,st.chg⟩
  clear st
  show Value.bool _=Value.bool _
  (congr 1;rcases hr2 with ⟨h1,h2,h3,h4,h5⟩|⟨h1,h2,h3,h4,h5⟩|⟨h1,h2,h3,h4,x,h5,h6⟩|⟨h1,h2,h3,h4,x,y,h5,h6,h7⟩ <;> (try simp only [oneOp,decide_eq_true_eq] at h2) <;> simp_all <;> omega)
theorem uses_any (k:Int) (hk:1≤k∧k≤7) (w:World):Ret Tryz.prog 144 [.int .u8 k] w fun v w'=>v=.tuple [.agg [.bool (hasN k),.bool (decide (k=2)),.bool (hasE k),.bool (hasB k),.bool (decide (k=3))].toArray,.bool true].toArray∧Chg [] w w':=by
 refine ret_of [_] func144 rfl ntmps144 rfl ?_
 have st:=St.init w []
 refine sr ?_
 refine vc_e (e_al (l:=[_,_,_,_,_]) st rfl rfl zeroValue205 rfl ?_)
 intro b2 w hb2 st
 refine ya ?_
 refine et (vk2 0 2 (vc_seq (sr ?_)))
 refine ym ?_
 refine et (vk2 2 4 (vc_block (sr ?_)))
 refine vy (y_eqi rfl rfl) ?_
 refine ya ?_
 refine et (vk3 2 4 5 ?_)
 refine vif ?_ ?_
 ·intro hc5
  try simp only [dn] at hc5
  refine sr ?_
  refine vy (ybd (.agg #[_,_,_,_,_]) [(0,_),(2,_)]) ?_
  refine vc_e (ests st 0 [_,_,_,_,_] sizeOf205 ?_)
  intro w st;dsimp only [setNth,wr] at st
  refine ya ?_
  refine et (vk2 2 3 (vc_ret (vq_block_ret (vq_then_ret ?_))))
  refine vq_ret2 st (.inl rfl) results144 (by exact .cell 0 rfl rfl isAgg205 sizeOf205) (.tmp rfl) ?_
  refine⟨_,rfl,?_⟩
  subst hc5
  exact⟨by rfl,st.chg⟩
 intro hc5
 try simp only [dn] at hc5
 refine sr ?_
 refine vy (y_eqi rfl rfl) ?_
 refine ya ?_
 refine et (vk3 2 4 8 ?_)
 refine vif ?_ ?_
 ·intro hc8
  try simp only [dn] at hc8
  refine sr ?_
  refine vy (ybd (.agg #[_,_,_,_,_]) [(0,_),(1,_),(2,_)]) ?_
  refine vc_e (ests st 0 [_,_,_,_,_] sizeOf205 ?_)
  intro w st;dsimp only [setNth,wr] at st
  refine ya ?_
  refine et (vk2 2 3 (vc_ret (vq_block_ret (vq_then_ret ?_))))
  refine vq_ret2 st (.inl rfl) results144 (by exact .cell 0 rfl rfl isAgg205 sizeOf205) (.tmp rfl) ?_
  refine⟨_,rfl,?_⟩
  subst hc8
  exact⟨by rfl,st.chg⟩
 intro hc8
 try simp only [dn] at hc8
 refine sr ?_
 refine vy (y_eqi rfl rfl) ?_
 refine ya ?_
 refine et (vk3 2 4 11 ?_)
 refine vif ?_ ?_
 ·intro hc11
  try simp only [dn] at hc11
  refine sr ?_
  refine vy (ybd (.agg #[_,_,_,_,_]) [(2,_),(3,_),(4,_)]) ?_
  refine vc_e (ests st 0 [_,_,_,_,_] sizeOf205 ?_)
  intro w st;dsimp only [setNth,wr] at st
  refine ya ?_
  refine et (vk2 2 3 (vc_ret (vq_block_ret (vq_then_ret ?_))))
  refine vq_ret2 st (.inl rfl) results144 (by exact .cell 0 rfl rfl isAgg205 sizeOf205) (.tmp rfl) ?_
  refine⟨_,rfl,?_⟩
  subst hc11
  exact⟨by rfl,st.chg⟩
 intro hc11
 try simp only [dn] at hc11
 refine sr ?_
 refine vy (y_eqi rfl rfl) ?_
 refine ya ?_
 refine et (vk3 2 4 14 ?_)
 refine vif ?_ ?_
 ·intro hc14
  try simp only [dn] at hc14
  refine sr ?_
  refine vy (ybd (.agg #[_,_,_,_,_]) [(2,_),(3,_)]) ?_
  refine vc_e (ests st 0 [_,_,_,_,_] sizeOf205 ?_)
  intro w st;dsimp only [setNth,wr] at st
  refine ya ?_
  refine et (vk2 2 3 (vc_ret (vq_block_ret (vq_then_ret ?_))))
  refine vq_ret2 st (.inl rfl) results144 (by exact .cell 0 rfl rfl isAgg205 sizeOf205) (.tmp rfl) ?_
  refine⟨_,rfl,?_⟩
  subst hc14
  exact⟨by rfl,st.chg⟩
 intro hc14
 try simp only [dn] at hc14
 refine sr ?_
 refine vy (y_eqi rfl rfl) ?_
 refine ya ?_
 refine et (vk3 2 4 17 ?_)
 refine vif ?_ ?_
 ·intro hc17
  try simp only [dn] at hc17
  refine sr ?_
  refine vy (ybd (.agg #[_,_,_,_,_]) [(0,_),(3,_)]) ?_
  refine vc_e (ests st 0 [_,_,_,_,_] sizeOf205 ?_)
  intro w st;dsimp only [setNth,wr] at st
  refine ya ?_
  refine et (vk2 2 3 (vc_ret (vq_block_ret (vq_then_ret ?_))))
  refine vq_ret2 st (.inl rfl) results144 (by exact .cell 0 rfl rfl isAgg205 sizeOf205) (.tmp rfl) ?_
  refine⟨_,rfl,?_⟩
  subst hc17
  exact⟨by rfl,st.chg⟩
 intro hc17
 try simp only [dn] at hc17
 refine sr ?_
 refine vy (y_eqi rfl rfl) ?_
 refine ya ?_
 refine et (vk3 2 4 20 ?_)
 refine vif ?_ ?_
 ·intro hc20
  try simp only [dn] at hc20
  refine sr ?_
  refine vy (ybd (.agg #[_,_,_,_,_]) [(2,_)]) ?_
  refine vc_e (ests st 0 [_,_,_,_,_] sizeOf205 ?_)
  intro w st;dsimp only [setNth,wr] at st
  refine ya ?_
  refine et (vk2 2 3 (vc_ret (vq_block_ret (vq_then_ret ?_))))
  refine vq_ret2 st (.inl rfl) results144 (by exact .cell 0 rfl rfl isAgg205 sizeOf205) (.tmp rfl) ?_
  refine⟨_,rfl,?_⟩
  subst hc20
  exact⟨by rfl,st.chg⟩
 intro hc20
 try simp only [dn] at hc20
 refine sr ?_
 refine vy (y_eqi rfl rfl) ?_
 refine ya ?_
 refine et (vk2 2 23 ?_)
 refine vif ?_ ?_
 ·intro hc23
  try simp only [dn] at hc23
  refine sr ?_
  refine vy (ybd (.agg #[_,_,_,_,_]) []) ?_
  refine vc_e (ests st 0 [_,_,_,_,_] sizeOf205 ?_)
  intro w st;dsimp only [setNth,wr] at st
  refine ya ?_
  refine et (vk2 2 3 (vc_ret (vq_block_ret (vq_then_ret ?_))))
  refine vq_ret2 st (.inl rfl) results144 (by exact .cell 0 rfl rfl isAgg205 sizeOf205) (.tmp rfl) ?_
  refine⟨_,rfl,?_⟩
  subst hc23
  exact⟨by rfl,st.chg⟩
 intro hc23
 try simp only [dn] at hc23
 refine vc_code_skip (vq_block (vq_then (vk1 2 (sr ?_))))
 refine vy (ybd (.agg #[_,_,_,_,_]) []) ?_
 refine vc_e (ests st 0 [_,_,_,_,_] sizeOf205 ?_)
 intro w st;dsimp only [setNth,wr] at st
 refine ya ?_
 refine et (vk2 2 3 (vc_ret ?_))
 refine vq_ret2 st (.inl rfl) results144 (by exact .cell 0 rfl rfl isAgg205 sizeOf205) (.tmp rfl) ?_
 refine⟨_,rfl,?_⟩
 exfalso;omega
set_option maxHeartbeats 2000000 in
theorem shape_any (s:Sm) (d:Nat) (hr:rightS s d=true) (oe ob ol:Option Addr) (ce cb cl:Nat) (w:World):Ret Tryz.prog 132 [.agg (smL s oe ob ol ce cb cl).toArray] w fun v w'=>v=.bool true∧Chg [] w w':=by
 refine ret_of [_] func132 rfl ntmps132 rfl ?_
 have st:=St.init w []
 obtain⟨hk,hn,ho,hx,hb,hl⟩:(1≤s.k∧s.k≤7)∧(hasN s.k=true∨s.nm=[])∧(s.k=2∨s.other=[])∧(s.e.length=if hasE s.k=true then 1 else 0)∧(hasB s.k=true∨s.body.length=0)∧(s.k=3∨s.els.length=0):=by
  cases s with
  | mk k nm other e body els a=>
   simp only [rightS,Bool.and_eq_true,decide_eq_true_eq,Bool.or_eq_true] at hr
   obtain⟨⟨⟨⟨⟨⟨⟨⟨h1,h2⟩,h3⟩,h4⟩,h5⟩,h6⟩,-⟩,-⟩,-⟩:=hr
   show (1≤k∧k≤7)∧(hasN k=true∨nm=[])∧(k=2∨other=[])∧(e.length=if hasE k=true then 1 else 0)∧(hasB k=true∨body.length=0)∧(k=3∨els.length=0)
   refine⟨h1,?_,?_,?_,h5,h6⟩
   ·unfold nmOk at h2;split at h2
    ·exact .inl (by assumption)
    ·exact .inr (by simpa using h2)
   ·unfold nmOk at h3;split at h3
    ·rename_i h;exact .inl (by simpa using h)
    ·exact .inr (by simpa using h3)
   ·unfold rightX at h4
    split at h4
    ·rename_i h;rw [if_pos h]
     split at h4
     ·rfl
     ·cases h4
    ·rename_i h;rw [if_neg h];simpa using h4
 clear hr
 refine sr ?_
 refine vc_e (e_bx (l:=[_,_,_,_,_,_,_]) st rfl rfl rfl rfl ?_)
 intro b1 w hb1 st
 refine ya ?_
 refine et (vk1 1 (sr ?_))
 refine vy (y_fa0 rfl underlying144 rfl rfl sizeOf141 rfl) ?_
 refine yl st 0 isAgg141 ?_
 refine vc_e (e_call [_] rfl rfl call144 rfl (uses_any _ hk _) ?_)
 rintro _ w ⟨rfl,cw⟩
 replace st:=st.call0 cw
 refine ym ?_
 iterate 2 refine vy (y_ext rfl rfl) ?_
 refine vc_e (e_al (l:=[_,_,_,_,_]) st rfl rfl zeroValue205 rfl ?_)
 intro b3 w hb3 st
 refine vc_e (ests st 0 [_,_,_,_,_] sizeOf205 ?_)
 intro w st;dsimp only [setNth,wr] at st
 refine ya ?_
 refine et (vk3 1 3 4 (sr ?_))
 refine ya ?_
 refine et (vk4 1 3 4 5 (vc_seq (sr ?_)))
 refine yfz 2 underlying205 sizeOf4 ?_
 refine yl st 0 isAgg4 ?_
 refine et (vk5 1 3 4 5 13 ?_)
 refine vif ?_ ?_
 intro hc13
 try simp only [dn] at hc13
 refine vc_region ?_
 refine ya ?_
 refine vc_end ?_
 rotate_left
 intro hc13
 try simp only [dn] at hc13
 refine vc_code_skip ?_
 all_goals
  refine vq_then (vk4 1 3 4 5 (sr ?_))
  refine ym ?_
  refine vmb ?_ ?_
  ·intro hg15
   try simp only [dn] at hg15
   refine yfz 3 underlying144 sizeOf142 ?_
   refine yl st 1 isAgg142 ?_
   refine vy (y_lensl rfl underlying142) ?_
   refine ym ?_
   refine vy (y_eqi rfl rfl) ?_
   refine ypt ?_
   refine vmb ?_ ?_
   focus
    intro hg22
    try simp only [dn] at hg22
    refine vy (y_fa0 rfl underlying205 rfl rfl sizeOf4 rfl) ?_
    refine yl st 0 isAgg4 ?_
    refine vmb ?_ ?_
    focus
     intro hg25
     try simp only [dn] at hg25
     iterate 3 refine vsk ?_
     iterate 2 refine ypt ?_
     refine ym ?_
     refine yfz 1 underlying205 sizeOf4 ?_
     refine yl st 0 isAgg4 ?_
     refine vmb ?_ ?_
     focus
      intro hg34
      try simp only [dn] at hg34
      iterate 3 refine vsk ?_
      iterate 2 refine ypt ?_
      refine ym ?_
      refine yfz 3 underlying205 sizeOf4 ?_
      refine yl st 0 isAgg4 ?_
      refine vmb ?_ ?_
      focus
       intro hg43
       try simp only [dn] at hg43
       iterate 4 refine vsk ?_
       iterate 2 refine ypt ?_
       refine ym ?_
       refine yfz 4 underlying205 sizeOf4 ?_
       refine yl st 0 isAgg4 ?_
       refine vmb ?_ ?_
       intro hg53
       try simp only [dn] at hg53
       iterate 4 refine vsk ?_
       refine ypt ?_
       rotate_left
       intro hg53
       try simp only [dn] at hg53
       refine yfz 5 underlying144 sizeOf48 ?_
       refine yl st 1 isAgg48 ?_
       refine vy (y_lensl rfl underlying48) ?_
       refine vy (y_eqi rfl rfl) ?_
       refine ypf ?_
       all_goals
        refine ypt ?_
      rotate_left 2
      focus
       intro hg43
       try simp only [dn] at hg43
       refine yfz 4 underlying144 sizeOf48 ?_
       refine yl st 1 isAgg48 ?_
       refine vy (y_lensl rfl underlying48) ?_
       refine vy (y_eqi rfl rfl) ?_
       refine ypf ?_
       refine ypt ?_
       refine vmb ?_ ?_
       focus
        intro hg50
        try simp only [dn] at hg50
        refine yfz 4 underlying205 sizeOf4 ?_
        refine yl st 0 isAgg4 ?_
        refine vmb ?_ ?_
        intro hg53
        try simp only [dn] at hg53
        iterate 4 refine vsk ?_
        refine ypt ?_
        rotate_left
        intro hg53
        try simp only [dn] at hg53
        refine yfz 5 underlying144 sizeOf48 ?_
        refine yl st 1 isAgg48 ?_
        refine vy (y_lensl rfl underlying48) ?_
        refine vy (y_eqi rfl rfl) ?_
        refine ypf ?_
        all_goals
         refine ypt ?_
       rotate_left 2
       intro hg50
       try simp only [dn] at hg50
       iterate 8 refine vsk ?_
       refine ypf ?_
     rotate_left 5
     focus
      intro hg34
      try simp only [dn] at hg34
      refine yfz 2 underlying144 sizeOf9 ?_
      refine yl st 1 isAgg9 ?_
      refine vy (y_eqs rfl rfl) ?_
      refine ypf ?_
      refine ypt ?_
      refine vmb ?_ ?_
      focus
       intro hg40
       try simp only [dn] at hg40
       refine yfz 3 underlying205 sizeOf4 ?_
       refine yl st 0 isAgg4 ?_
       refine vmb ?_ ?_
       focus
        intro hg43
        try simp only [dn] at hg43
        iterate 4 refine vsk ?_
        iterate 2 refine ypt ?_
        refine ym ?_
        refine yfz 4 underlying205 sizeOf4 ?_
        refine yl st 0 isAgg4 ?_
        refine vmb ?_ ?_
        intro hg53
        try simp only [dn] at hg53
        iterate 4 refine vsk ?_
        refine ypt ?_
        rotate_left
        intro hg53
        try simp only [dn] at hg53
        refine yfz 5 underlying144 sizeOf48 ?_
        refine yl st 1 isAgg48 ?_
        refine vy (y_lensl rfl underlying48) ?_
        refine vy (y_eqi rfl rfl) ?_
        refine ypf ?_
        all_goals
         refine ypt ?_
       rotate_left 2
       focus
        intro hg43
        try simp only [dn] at hg43
        refine yfz 4 underlying144 sizeOf48 ?_
        refine yl st 1 isAgg48 ?_
        refine vy (y_lensl rfl underlying48) ?_
        refine vy (y_eqi rfl rfl) ?_
        refine ypf ?_
        refine ypt ?_
        refine vmb ?_ ?_
        focus
         intro hg50
         try simp only [dn] at hg50
         refine yfz 4 underlying205 sizeOf4 ?_
         refine yl st 0 isAgg4 ?_
         refine vmb ?_ ?_
         intro hg53
         try simp only [dn] at hg53
         iterate 4 refine vsk ?_
         refine ypt ?_
         rotate_left
         intro hg53
         try simp only [dn] at hg53
         refine yfz 5 underlying144 sizeOf48 ?_
         refine yl st 1 isAgg48 ?_
         refine vy (y_lensl rfl underlying48) ?_
         refine vy (y_eqi rfl rfl) ?_
         refine ypf ?_
         all_goals
          refine ypt ?_
        rotate_left 2
        intro hg50
        try simp only [dn] at hg50
        iterate 8 refine vsk ?_
        refine ypf ?_
      rotate_left 5
      intro hg40
      try simp only [dn] at hg40
      iterate 8 refine vsk ?_
      refine ypf ?_
      refine ym ?_
      iterate 8 refine vsk ?_
      refine ypf ?_
    rotate_left 11
    focus
     intro hg25
     try simp only [dn] at hg25
     refine yfz 1 underlying144 sizeOf9 ?_
     refine yl st 1 isAgg9 ?_
     refine vy (y_eqs rfl rfl) ?_
     refine ypf ?_
     refine ypt ?_
     refine vmb ?_ ?_
     focus
      intro hg31
      try simp only [dn] at hg31
      refine yfz 1 underlying205 sizeOf4 ?_
      refine yl st 0 isAgg4 ?_
      refine vmb ?_ ?_
      focus
       intro hg34
       try simp only [dn] at hg34
       iterate 3 refine vsk ?_
       iterate 2 refine ypt ?_
       refine ym ?_
       refine yfz 3 underlying205 sizeOf4 ?_
       refine yl st 0 isAgg4 ?_
       refine vmb ?_ ?_
       focus
        intro hg43
        try simp only [dn] at hg43
        iterate 4 refine vsk ?_
        iterate 2 refine ypt ?_
        refine ym ?_
        refine yfz 4 underlying205 sizeOf4 ?_
        refine yl st 0 isAgg4 ?_
        refine vmb ?_ ?_
        intro hg53
        try simp only [dn] at hg53
        iterate 4 refine vsk ?_
        refine ypt ?_
        rotate_left
        intro hg53
        try simp only [dn] at hg53
        refine yfz 5 underlying144 sizeOf48 ?_
        refine yl st 1 isAgg48 ?_
        refine vy (y_lensl rfl underlying48) ?_
        refine vy (y_eqi rfl rfl) ?_
        refine ypf ?_
        all_goals
         refine ypt ?_
       rotate_left 2
       focus
        intro hg43
        try simp only [dn] at hg43
        refine yfz 4 underlying144 sizeOf48 ?_
        refine yl st 1 isAgg48 ?_
        refine vy (y_lensl rfl underlying48) ?_
        refine vy (y_eqi rfl rfl) ?_
        refine ypf ?_
        refine ypt ?_
        refine vmb ?_ ?_
        focus
         intro hg50
         try simp only [dn] at hg50
         refine yfz 4 underlying205 sizeOf4 ?_
         refine yl st 0 isAgg4 ?_
         refine vmb ?_ ?_
         intro hg53
         try simp only [dn] at hg53
         iterate 4 refine vsk ?_
         refine ypt ?_
         rotate_left
         intro hg53
         try simp only [dn] at hg53
         refine yfz 5 underlying144 sizeOf48 ?_
         refine yl st 1 isAgg48 ?_
         refine vy (y_lensl rfl underlying48) ?_
         refine vy (y_eqi rfl rfl) ?_
         refine ypf ?_
         all_goals
          refine ypt ?_
        rotate_left 2
        intro hg50
        try simp only [dn] at hg50
        iterate 8 refine vsk ?_
        refine ypf ?_
      rotate_left 5
      focus
       intro hg34
       try simp only [dn] at hg34
       refine yfz 2 underlying144 sizeOf9 ?_
       refine yl st 1 isAgg9 ?_
       refine vy (y_eqs rfl rfl) ?_
       refine ypf ?_
       refine ypt ?_
       refine vmb ?_ ?_
       focus
        intro hg40
        try simp only [dn] at hg40
        refine yfz 3 underlying205 sizeOf4 ?_
        refine yl st 0 isAgg4 ?_
        refine vmb ?_ ?_
        focus
         intro hg43
         try simp only [dn] at hg43
         iterate 4 refine vsk ?_
         iterate 2 refine ypt ?_
         refine ym ?_
         refine yfz 4 underlying205 sizeOf4 ?_
         refine yl st 0 isAgg4 ?_
         refine vmb ?_ ?_
         intro hg53
         try simp only [dn] at hg53
         iterate 4 refine vsk ?_
         refine ypt ?_
         rotate_left
         intro hg53
         try simp only [dn] at hg53
         refine yfz 5 underlying144 sizeOf48 ?_
         refine yl st 1 isAgg48 ?_
         refine vy (y_lensl rfl underlying48) ?_
         refine vy (y_eqi rfl rfl) ?_
         refine ypf ?_
         all_goals
          refine ypt ?_
        rotate_left 2
        focus
         intro hg43
         try simp only [dn] at hg43
         refine yfz 4 underlying144 sizeOf48 ?_
         refine yl st 1 isAgg48 ?_
         refine vy (y_lensl rfl underlying48) ?_
         refine vy (y_eqi rfl rfl) ?_
         refine ypf ?_
         refine ypt ?_
         refine vmb ?_ ?_
         focus
          intro hg50
          try simp only [dn] at hg50
          refine yfz 4 underlying205 sizeOf4 ?_
          refine yl st 0 isAgg4 ?_
          refine vmb ?_ ?_
          intro hg53
          try simp only [dn] at hg53
          iterate 4 refine vsk ?_
          refine ypt ?_
          rotate_left
          intro hg53
          try simp only [dn] at hg53
          refine yfz 5 underlying144 sizeOf48 ?_
          refine yl st 1 isAgg48 ?_
          refine vy (y_lensl rfl underlying48) ?_
          refine vy (y_eqi rfl rfl) ?_
          refine ypf ?_
          all_goals
           refine ypt ?_
         rotate_left 2
         intro hg50
         try simp only [dn] at hg50
         iterate 8 refine vsk ?_
         refine ypf ?_
       rotate_left 5
       intro hg40
       try simp only [dn] at hg40
       iterate 8 refine vsk ?_
       refine ypf ?_
       refine ym ?_
       iterate 8 refine vsk ?_
       refine ypf ?_
     rotate_left 11
     intro hg31
     try simp only [dn] at hg31
     iterate 7 refine vsk ?_
     refine ypf ?_
     refine ym ?_
     iterate 8 refine vsk ?_
     refine ypf ?_
     refine ym ?_
     iterate 8 refine vsk ?_
     refine ypf ?_
   rotate_left 23
   intro hg22
   try simp only [dn] at hg22
   iterate 7 refine vsk ?_
   refine ypf ?_
   refine ym ?_
   iterate 7 refine vsk ?_
   refine ypf ?_
   refine ym ?_
   iterate 8 refine vsk ?_
   refine ypf ?_
   refine ym ?_
   iterate 8 refine vsk ?_
   refine ypf ?_
   all_goals
    refine ya ?_
    refine et (vk1 2 (vc_ret ?_))
    refine vr1 st results132 ?_
    refine⟨?_,st.chg⟩
    clear st
    show Value.bool _=Value.bool _
    first
    | rfl
    | (congr 1;simp_all <;> omega)
  ·intro hg15
   exfalso;revert hg15;decide
theorem ckEs_all {V:Wd→Bool} {d:Nat}:∀ {l:List Ex},ckEs V l d=true↔∀ x∈l,ckE V x d=true
 | []=>by simp [ckEs]
 | x::r=>by rw [ckEs,Bool.and_eq_true,ckEs_all];simp
theorem ckE_iff {V:Wd→Bool} {e:Ex} {d:Nat}:ckE V e d=true↔(e.k=2→V e.nm=true)∧d≤64∧∀ x∈e.kids,ckE V x (d+1)=true:=by
 cases e with
 | mk k op wd nm kids a=>
  rw [ckE]
  simp only [Bool.and_eq_true,Bool.or_eq_true,Bool.not_eq_true',decide_eq_false_iff_not,decide_eq_true_eq,ckEs_all,Ex.k,Ex.nm,Ex.kids,and_assoc]
  constructor
  ·rintro ⟨h1,h2⟩;exact⟨fun h=>h1.resolve_left (fun g=>g h),h2⟩
  ·rintro ⟨h1,h2⟩;exact⟨(Decidable.em (k=2)).elim (fun h=>.inr (h1 h)) .inl,h2⟩
theorem varR_pos (top:Wd→Int) (loc:Wd→Bool) (nm:Wd) (b:Bool):0≤varR top loc nm b:=by unfold varR;repeat' split;all_goals omega
theorem grdR_pos (top:Wd→Int) (loc:Wd→Bool) (nm:Wd):0≤grdR top loc nm:=by unfold grdR;repeat' split;all_goals omega
def vaV (top:Wd→Int) (loc:Wd→Bool) (nm:Wd):Bool:=decide (varR top loc nm false=0)
def vaW (top:Wd→Int) (loc:Wd→Bool) (nm:Wd):Bool:=decide (varR top loc nm true=0)
def vaG (top:Wd→Int) (loc:Wd→Bool) (nm:Wd):Bool:=decide (grdR top loc nm=0)
theorem rightE_kid {e x:Ex} {d:Nat} (h:rightE e d=true) (hx:x∈e.kids):∃ d',rightE x d'=true:=by
 rcases (rightE_iff.1 h).2 with ⟨-,-,-,-,h5⟩|⟨-,-,-,-,h5⟩|⟨-,-,-,-,y,h5,h6⟩|⟨-,-,-,-,y,z,h5,h6,h7⟩
 ·rw [h5] at hx;simp at hx
 ·rw [h5] at hx;simp at hx
 ·rw [h5] at hx;simp only [List.mem_singleton] at hx;subst hx;exact⟨_,h6⟩
 ·rw [h5] at hx;simp only [List.mem_cons,List.not_mem_nil,or_false] at hx
  rcases hx with rfl|rfl
  ·exact⟨_,h6⟩
  ·exact⟨_,h7⟩
theorem rightE_len {e:Ex} {d:Nat} (h:rightE e d=true):e.kids.length≤2:=by
 rcases (rightE_iff.1 h).2 with ⟨-,-,-,-,h5⟩|⟨-,-,-,-,h5⟩|⟨-,-,-,-,y,h5,h6⟩|⟨-,-,-,-,y,z,h5,h6,h7⟩ <;> rw [h5] <;> simp
set_option maxHeartbeats 1000000 in
theorem cexpr_any (n0:Nat) (wb tm lm:Nat) (p0 p1 p2:Value) (top:Wd→Int) (loc:Wd→Bool):∀ (n:Nat) (e:Ex),szo e=n→(∃ d0,rightE e d0=true)→∀ (d:Nat),d≤65→∀ (l:List Value) (w:World),ExV w (·<n0) e l→Wk wb tm lm p0 p1 p2 top loc w→RetP Tryz.prog 135 [.pointer (some ⟨wb,0,none⟩),.agg l.toArray,.int .i64 (d:Int)] w (fun v w'=>ckE (vaV top loc) e d=true∧Chg [] w w') (fun v w'=>ckE (vaV top loc) e d=false∧Brk w v w'):=by
 intro n
 refine Nat.strongRecOn n fun n ih=>?_
 intro e hn ⟨d0,hd0⟩ d hd l w hV hw
 subst hn
 obtain⟨oa,cap,rfl,hr⟩:=ExV.inv hV
 have hkl:=rightE_len hd0
 have hvp:=varR_pos top loc e.nm false
 refine retp_of [_,_,_] func135 rfl ntmps135 rfl ?_
 have st:=St.init w []
 obtain⟨w0,rfl⟩:∃ w0,w0=w:=⟨_,rfl⟩
 refine sr ?_
 refine vc_e (e_bx (l:=[_,_,_,_,_,_]) st rfl rfl rfl rfl ?_)
 intro b4 w hb4 st
 refine et (vk3 0 2 4 (sr ?_))
 refine ya ?_
 refine et (vk4 0 2 4 6 ?_)
 refine vc_cut (w0:=w0) (M:=[]) (fun (_:Unit)=>[(0,.pointer (some ⟨wb,0,none⟩)),(2,.int .i64 (d:Int)),(4,.pointer (some ⟨b4,0,none⟩)),(6,.int .i64 (if e.k=2 then varR top loc e.nm false else 0))]) (fun _=>[.blk b4 (.cells (exL e oa cap).toArray 177 (0,0))]) (fun _ _=>True) ?_ ?_
 ·refine vc_seq ?_
  refine vc_region ?_
  refine vy (y_fa0 rfl underlying177 rfl rfl sizeOf175 rfl) ?_
  refine yl st 0 isAgg175 ?_
  refine vy (y_eqi rfl rfl) ?_
  refine et (vk5 0 2 4 6 11 ?_)
  refine vif ?_ ?_
  ·intro hc11
   try simp only [dn] at hc11
   refine vc_region ?_
   refine ym ?_
   refine yfz 3 underlying177 sizeOf9 ?_
   refine yl st 0 isAgg9 ?_
   refine vc_e (e_call [_,_,_] rfl rfl call133 rfl (variable_any wb tm lm p0 p1 p2 top loc _ _ _ (hw.kept st.chg)) ?_)
   rintro _ w ⟨rfl,cw⟩
   replace st:=st.call0 cw
   refine ya ?_
   refine vc_end ?_
   refine vq_meet () ⟨rfl,rfl,rfl,by rw [if_pos hc11];rfl,trivial⟩ st ?_
   ·trivial
  intro hc11
  try simp only [dn] at hc11
  refine vc_code_skip ?_
  refine vq_meet () ⟨rfl,rfl,rfl,by rw [if_neg hc11];rfl,trivial⟩ st ?_
  ·trivial
 clear st
 rintro _ w _ st
 refine vc_seq ?_
 refine vdr0 Tryz.mixed [Yt 0,Yt 1,Yt 2,Yt 6,Yt 7,Yt 8,Nt 3,Yt 4,Nt 5,Nt 9,Nt 10,Nt 11] st ?_
 clear st;intro w st hS
 refine pfz hS 5 underlying177 sizeOf3 ?_
 refine pld hS 0 isAgg3 ?_
 refine vp_take rfl rfl rfl hS (fun w st=>y_lda (vs:=[_,_,_,_,_,_]) st 0 rfl isAgg177 sizeOf177 rfl rfl) ?_
 iterate 2 refine pm hS ?_
 refine vp_take rfl rfl rfl hS (fun w st=>y_gtr rfl rfl) ?_
 refine vp_do rfl (e_call [_] rfl rfl call145 rfl (fits_any e d0 hd0 oa cap _) ?_)
 rintro _ w ⟨rfl,cw⟩
 replace st:=st.call0 cw
 refine vp_next (by exact st) ?_;intro hS
 refine vp_take rfl rfl rfl hS (fun w st=>y_not rfl) ?_
 refine vp_do rfl (e_call [_,_] rfl rfl call46 rfl (when_any _ _ _) ?_)
 rintro _ _ ⟨rfl,rfl⟩
 refine vp_next (by exact st) ?_;intro hS
 refine vp_do rfl (e_call [_,_] rfl rfl call46 rfl (when_any _ _ _) ?_)
 rintro _ _ ⟨rfl,rfl⟩
 refine vp_next (by exact st) ?_;intro hS
 refine vp_do rfl (e_bsn (l:=[if (!true)=true then 4 else 0,(if e.k=2 then varR top loc e.nm false else 0),if decide (64<(d:Int))=true then 7 else 0].map iV) (E:=3) st [(0,_),(1,_),(2,_)] rfl rfl rfl (fun w=>by simp [Instr.buildSlice,run_underlying underlying44,sizeOf3,zeroValue3,Instr.fill,newRow,newObj,Sem.run,go_sem,Value.cells]) ?_)
 intro b26 w hb26 st
 refine vp_next st.dr ?_;intro hS
 refine vp_do rfl (e_callp [_,_] rfl rfl call45 rfl (breaks_any _ [if (!true)=true then 4 else 0,(if e.k=2 then varR top loc e.nm false else 0),if decide (64<(d:Int))=true then 7 else 0] (by intro y hy;have:=hvp;simp at hy;rcases hy with rfl|rfl|rfl;omega;omega;split <;> omega) b26 _ _ (fun i v hi=>cell_blk (st.res (i:=0) rfl) (by rw [nth_eq];exact hi)) (by simp)) (by rintro _ w' ⟨hno,hv,ch⟩ a ha;exact And.intro ha (Or.inr ⟨_,rfl,(by
     rw [← Bool.not_eq_true,ckE_iff]
     rintro ⟨g1,g2,-⟩
     refine hno fun y hy=>?_
     simp only [List.mem_cons,List.not_mem_nil,or_false] at hy
     rcases hy with rfl|rfl|rfl
     · rfl
     · split
       · exact of_decide_eq_true (g1 (by assumption))
       · rfl
     · rw [if_neg (by simp;omega)]),hv,st.chg.trans ch⟩)) ?_)
 rintro _ w ⟨hz,cw⟩
 replace st:=st.call0 cw
 have hz1:=hz _ (.tail _ (.head _))
 have hz2:=hz _ (.tail _ (.tail _ (.head _)))
 have hd64:d≤64:=by
  rcases Nat.lt_or_ge 64 d with h|h
  ·rw [if_pos (by simp;omega)] at hz2;cases hz2
  ·exact h
 refine vp_next st.dr ?_;intro hS
 refine vp_end (vq_then (vk3 0 2 4 (sr ?_)))
 refine yfz 4 underlying177 sizeOf142 ?_
 refine yl st 1 isAgg142 ?_
 refine vy (y_lensl rfl underlying142) ?_
 refine ym ?_
 refine et (vk5 0 2 29 30 31 (vc_block ?_))
 refine vc_loop (w0:=w0) (M:=[]) (fun (j:Nat)=>[(0,.pointer (some ⟨wb,0,none⟩)),(2,.int .i64 (d:Int)),(29,.slice oa e.kids.length cap),(30,.int .i64 (e.kids.length:Int)),(31,.int .i64 (j:Int))]) (fun _=>[]) (fun j w'=>j≤e.kids.length∧∀ x∈e.kids.take j,ckE (vaV top loc) x (d+1)=true) (fun j=>e.kids.length - j) 0 ⟨rfl,rfl,rfl,rfl,rfl,trivial⟩ (st.drop (by simp)) ⟨by simp,by simp⟩ ?_
 clear st
 rintro j w ⟨hj,hall⟩ st
 refine sr ?_
 refine vy (y_lss rfl rfl) ?_
 refine et (vk6 0 2 29 30 31 32 (vc_seq ?_))
 refine vif ?_ ?_
 ·intro hc32
  try simp only [dn] at hc32
  have stK:=st
  have hj2:j<e.kids.length:=by omega
  obtain⟨x,hx⟩:∃ x,e.kids[j]?=some x:=⟨_,List.getElem?_eq_getElem hj2⟩
  obtain⟨gb,go,rfl,hgS,hgl,hg⟩:=ExRow.at hr (by omega)
  obtain⟨o0,c0,hV0,hr0,hc0⟩:=hg j x hx
  have hm:=mem_size hx
  have hz0:=szo_kids e
  have hmx:=List.mem_of_getElem? hx
  have st:=stK
  refine kt (vk5 0 2 29 30 31 (vc_seq (vc_block (sr ?_))))
  refine vy (y_ia (k:=j) rfl rfl underlying142 sizeOf177 rfl (by omega)) ?_
  refine vy (y_ldca (exL x o0 c0) rfl isAgg177 sizeOf177 rfl (fun i v hi=>st.chg.cell (hc0 i v hi) (by simp))) ?_
  refine vc_e (e_al (l:=[_,_,_,_,_,_]) st rfl rfl zeroValue177 rfl ?_)
  intro b8 w hb8 st
  refine vc_e (ests st 0 [_,_,_,_,_,_] sizeOf177 ?_)
  intro w st;dsimp only [setNth,wr] at st
  refine et (vk6 0 2 8 29 30 31 (vc_region ?_))
  refine ym ?_
  refine yla st 0 [_,_,_,_,_,_] isAgg177 sizeOf177 ?_
  refine ym ?_
  refine vy (y_add rfl rfl (by omega:_=((d+1:Nat):Int)) (by omega) (by omega)) ?_
  refine vc_e (e_callp [_,_,_] rfl rfl call135 rfl (ih (szo x) (by omega) x rfl (rightE_kid hd0 hmx) (d+1) (by omega) _ _ (hV0.kept st.sm) (hw.kept st.chg)) (by rintro _ w' ⟨hno,hv,ch⟩ a ha;exact And.intro ha (Or.inr ⟨_,rfl,(by
      rw [← Bool.not_eq_true,ckE_iff]
      rintro ⟨-,-,g3⟩
      rw [g3 x hmx] at hno
      cases hno),hv,st.chg.trans ch⟩)) ?_)
  rintro _ w ⟨hck,cw⟩
  replace st:=st.call0 cw
  refine vc_end (vq_block (vq_then (vk5 0 2 29 30 31 (vc_region ?_))))
  refine vy (y_add rfl rfl (by omega:_=((j+1:Nat):Int)) (by omega) (by omega)) ?_
  refine ym ?_
  refine vc_end ?_
  refine vq_again (j+1)  ⟨rfl,rfl,rfl,rfl,rfl,trivial⟩ (st.drop (by simp)) ?_ ?_
  ·refine⟨by omega,fun y hy=>?_⟩
   rw [List.take_succ_eq_append_getElem hj2] at hy
   rcases List.mem_append.1 hy with hy|hy
   ·exact hall y hy
   ·simp only [List.mem_singleton] at hy
    rw [hy,(List.getElem?_eq_some_iff.1 hx).2];exact hck
  omega
 intro hc32
 try simp only [dn] at hc32
 have hj2:j=e.kids.length:=by omega
 rw [hj2,List.take_length] at hall
 refine vc_exit (vq_then_exit (vq_then_exit (vq_block_exit ?_)))
 refine vq_ret0 (.inr rfl) results135 ?_
 refine .inl ⟨_,rfl,?_⟩
 refine⟨ckE_iff.2 ⟨fun h=>?_,hd64,hall⟩,st.chg⟩
 rw [if_pos h] at hz1
 exact decide_eq_true hz1
end Go.Proofs.YtkhpdpenlnhbiaaGreatDoor
