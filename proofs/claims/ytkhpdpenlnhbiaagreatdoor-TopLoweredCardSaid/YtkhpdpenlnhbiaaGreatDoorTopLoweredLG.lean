/- A part of the proof: contracts of functions and plain laws; each theorem says its own conditions. -/
import Derived.Test.YtkhpdpenlnhbiaaGreatDoorTopLoweredK7
import Derived.Test.YtkhpdpenlnhbiaaGreatDoorTopLoweredK29
import Derived.Test.YtkhpdpenlnhbiaaGreatDoorTopLoweredParGb
namespace Go.Proofs.YtkhpdpenlnhbiaaGreatDoor
open Go.RowKit Sx LexS ParS _root_.Go.Proofs.Tryz
set_option linter.unusedVariables false
set_option linter.unusedSimpArgs false
theorem own_of_blk {w:World} {b E len size:Nat} {l:List Value} (hh:w.heap[b]?=some (.cells l.toArray E (0,0))) (hlen:l.length=len*size) (hm:len≤maxLen):w.ownsRow 0 E size (.slice (some ⟨b,0,none⟩) len len) len l:=by
 refine⟨hlen,.inr ⟨b,len,l.toArray,rfl,Nat.zero_le _,hh,Nat.le_refl _,hm,by simpa using hlen,?_⟩⟩
 simp only [← hlen]
 exact List.take_of_length_le (by simp)
theorem _root_.Sx.St.newOpen {w0 w:World} {M:List Nat} {hs:List Res} {xb b c1 c2 k:Nat} {f:Bool} (st:St w0 M (.blk b (.cells [clF f c1 c2].toArray 124 (0,0))::.blk c1 (.cells [.pointer (some ⟨xb,0,none⟩)].toArray 73 (0,0))::.blk c2 (.cells [.int .i64 (k:Int)].toArray 3 (0,0))::hs) w)
    (hb:w0.heap.size≤b) (h1:w0.heap.size≤c1) (h2:w0.heap.size≤c2):St w0 M (opR M w0.heap.size (.slice (some ⟨b,0,none⟩) 1 1) [⟨k,f,c1,c2⟩]::clR M w0.heap.size xb [⟨k,f,c1,c2⟩]::hs) w:=by
 obtain⟨b1,b2⟩:=List.pairwise_cons.1 st.nodup
 obtain⟨b2,b3⟩:=List.pairwise_cons.1 b2
 obtain⟨b3,b4⟩:=List.pairwise_cons.1 b3
 have hmem:∀ y,y∈clB [⟨k,f,c1,c2⟩]→y=c1∨y=c2:=fun y hy=>by simpa [clB] using hy
 refine((st.drop (hs':=hs) (.cons _ (.cons _ (.cons _ (List.Sublist.refl _))))).add (r:=clR M w0.heap.size xb [⟨k,f,c1,c2⟩]) (clR_holds ?_ ?_) ?_).add (r:=opR M w0.heap.size (.slice (some ⟨b,0,none⟩) 1 1) [⟨k,f,c1,c2⟩]) (frnZ_holds (own_of_blk (st.res (i:=0) rfl) rfl (by decide)) fun y hy=>?_) ?_
 ·intro q hq
  simp only [List.mem_singleton] at hq
  subst hq
  exact⟨st.res (i:=1) rfl,st.res (i:=2) rfl⟩
 ·intro y hy
  rcases hmem y hy with rfl|rfl
  ·exact .inr h1
  ·exact .inr h2
 ·intro x hx y hy
  rcases hmem y hy with rfl|rfl
  ·exact b2 x (.tail _ hx) _ (.head _)
  ·exact b3 x hx _ (.head _)
 ·simp only [Value.ownBlock,Option.some.injEq] at hy
  subst hy
  exact .inr hb
 intro x hx y hy
 simp only [frnZ_ats,Value.ownBlock,Option.mem_toList,Option.mem_def,Option.some.injEq] at hy
 subst hy
 rcases List.mem_cons.1 hx with rfl|hx
 ·intro hk
  rcases hmem _ hk with e|e
  ·exact b1 _ (.head _) _ (.head _) (by rw [e];exact .head _)
  ·exact b1 _ (.tail _ (.head _)) _ (.head _) (by rw [e];exact .head _)
 ·exact b1 x (.tail _ (.tail _ hx)) _ (.head _)
theorem _root_.Sx.St.ndTo {w0 w:World} {M:List Nat} {hs:List Res} {i n:Nat} {v:Value} {xs:List Value} {N:List Gn} (st:St w0 M hs w) (hi:nth hs i=some (frnZ M w0.heap.size 83 13 v n xs)) (hn:n=N.length) (hx:xs=gnL N 0):St w0 M (setNth hs i (ndR M w0.heap.size v N)) w:=by
 subst hn hx
 exact st.swap (C:=[]) hi (Chg.refl _ _) (by simp) (by simp) (fun k hk=>.inl hk) (st.res hi)
set_option maxHeartbeats 1000000 in
theorem lput_any (c:Cx) (xb:Nat) (L:LS) (gv qv:Value) (cl:List Clo) (g:Gn) (w:World) (h:Lo c xb L gv qv cl w) (hob:L.op.length≤1099511627776) :
    Ret Tryz.prog 21 [.pointer (some ⟨xb,0,none⟩),.agg (gnC g 0).toArray] w fun v w'=>v=.int .i64 (putAt L:Int)∧LoP c xb (loS xb gv qv cl) (putL g L) w w':=by
 refine ret_of [_,_] func21 rfl ntmps21 rfl ?_
 have st:=St.init w []
 obtain⟨w0,rfl⟩:∃ w0,w0=w:=⟨_,rfl⟩
 replace st:=(St.regInit h.reg).loOpen
 have heq:=h.eq
 have hlt:=h.lt
 have hle:=h.le
 obtain⟨on,cn,rfl⟩:=slice_formZ h.row
 refine sr ?_
 refine vc_e (e_bx (l:=[_,_,_,_,_,_,_,_,_,_,_,_,_]) st rfl rfl rfl rfl ?_)
 intro b3 w hb3 st
 refine ya ?_
 refine et (vk2 0 3 (sr ?_))
 refine ym ?_
 refine ynk ?_
 refine yfz 4 underlying76 sizeOf43 ?_
 refine vy (y_fa (k:=3) rfl underlying43 rfl rfl sizeOf41 rfl) ?_
 refine yl st 1 isAgg41 ?_
 refine vy (y_lensl rfl underlying41) ?_
 refine ya ?_
 refine et (vk3 0 3 5 (vc_seq (sr ?_)))
 refine ym ?_
 refine vy (y_geq rfl rfl) ?_
 refine et (vk4 0 3 5 13 ?_)
 refine vif ?_ ?_
 ·intro hc13
  try simp only [dn] at hc13
  have hf:4096≤L.N.length:=by omega
  refine sr ?_
  refine ym ?_
  refine ynk ?_
  refine yfz 9 underlying76 sizeOf4 ?_
  refine vc_e (e_st st 1 rfl rfl rfl rfl sizeOf4 rfl rfl (by(left;exact .head _)) ?_)
  intro w st;dsimp only [setNth,wr] at st
  refine et (vc_keep [] trivial (sr ?_))
  refine ya ?_
  refine et (vk1 4 (vc_ret (vq_then_ret ?_)))
  refine vr1 st results21 ?_
  refine⟨by unfold putAt;rw [if_pos hf];rfl,_,_,_,(((st.pick [1,2,3,4] rfl (by decide)).loClose (putL g L) ?_ (.inl (.head _)) (heq▸hlt) hle).regDone (i:=0) rfl)⟩
  unfold putL
  rw [if_pos hf,← heq]
 intro hc13
 try simp only [dn] at hc13
 have hf:¬ 4096≤L.N.length:=by omega
 replace st:=(st.pick [1,2,3,4,0] rfl (by decide)).loClose L (LS.eta heq) (.inl (.head _)) (heq▸hlt) hle
 refine kt (vk3 0 3 5 (sr ?_))
 iterate 2 refine ym ?_
 refine vc_e (e_call [_,_] rfl rfl call55 rfl (lead_any c xb _ L (.slice on L.N.length cn) qv cl _ (st.regGet (i:=0) rfl).1 hob) ?_)
 rintro _ w pp
 replace st:=st.regP (i:=0) rfl pp
 dsimp only [setNth] at st
 replace st:=st.loOpen
 dsimp only at st
 obtain⟨N1,hN1⟩:∃ N1,N1=leadL L.op L.N.length L.N:=⟨_,rfl⟩
 have hlN:N1.length=L.N.length:=by rw [hN1,leadL_len]
 rw [← hN1] at st
 refine et (vk3 0 3 5 (sr ?_))
 refine ym ?_
 refine yfz 12 underlying83 sizeOf3 ?_
 refine vc_e (est st 4 sizeOf3 ?_)
 intro w st;dsimp only [setNth,wr] at st
 refine et (vk3 0 3 5 (vc_seq ?_))
 refine kdr Tryz.mixed [Yt 0,Yt 1,Yt 2,Yt 3,Yt 4,Yt 5,Yt 6,Nt 7,Nt 8,Yt 9,Yt 10,Yt 11,Nt 12] 12 [.blk xb (.cells (loC c L.s (.slice on L.N.length cn) (.slice none 0 0) L.ov).toArray 76 (0,0)),.blk b3 (.cells (gnC g L.N.length).toArray 83 (0,0))] st ?_
 clear st;intro w st hS
 iterate 2 refine km hS ?_
 refine vk_takeU rfl rfl rfl rfl (fun _=>hS) (fun w=>y_nck rfl) ?_
 refine vk_takeU rfl rfl rfl rfl (fun _=>hS) (fun w=>(by exact y_faz (k:=4) rfl underlying76 rfl rfl sizeOf43 rfl)) ?_
 refine vk_takeU rfl rfl rfl rfl (fun _=>hS) (fun w=>(by exact y_fa (k:=3) rfl underlying43 rfl rfl sizeOf41 rfl)) ?_
 refine vk_take rfl rfl rfl rfl hS (fun w st=>y_ld st 0 rfl isAgg41 rfl rfl) ?_
 refine vk_take rfl rfl rfl rfl hS (fun w st=>y_lda (vs:=[_,_,_,_,_,_,_,_,_,_,_,_,_]) st 1 rfl isAgg83 sizeOf83 rfl rfl) ?_
 refine vk_do rfl rfl (e_bs1 (l:=[_,_,_,_,_,_,_,_,_,_,_,_,_]) st rfl rfl rfl rfl underlying41 sizeOf83 rfl rfl rfl zeroValue83 ?_)
 intro b29 w hb29 st
 refine vk_next st.dr ?_;intro hS
 refine vk_do rfl rfl (e_appZ (bytes:=96) st 2 0 rfl rfl rfl rfl rfl rfl underlying41 Tryz.info83 rfl rfl rfl rfl rfl rfl rfl rfl (by unfold maxLen;omega) (by omega) ?_)
 intro oa30 cap30 w st;dsimp only [setNth] at st
 refine vk_next st.dr ?_;intro hS
 refine vk_takeU rfl rfl rfl rfl (fun _=>hS) (fun w=>y_nck rfl) ?_
 refine vk_takeU rfl rfl rfl rfl (fun _=>hS) (fun w=>(by exact y_faz (k:=4) rfl underlying76 rfl rfl sizeOf43 rfl)) ?_
 refine vk_takeU rfl rfl rfl rfl (fun _=>hS) (fun w=>(by exact y_fa (k:=3) rfl underlying43 rfl rfl sizeOf41 rfl)) ?_
 refine vk_do rfl rfl (e_st st 1 rfl rfl rfl rfl sizeOf41 rfl rfl (by(left;exact .head _)) ?_)
 intro w st;dsimp only [setNth,wr] at st
 refine vk_late ?_
 refine vk_end ?_
 refine vq_then (vk2 0 5 (sr ?_))
 iterate 3 refine ym ?_
 refine vc_e (e_call [_,_] rfl rfl call56 rfl (lnext_any xb _ _) ?_)
 rintro _ w ⟨⟨c1,c2,rfl,g3,g4,hne,hc1,hc2⟩,cw⟩
 have hsA:=st.chg.size
 replace st:=st.pushBB cw g3 g4 hc1 hc2 hne
 refine vc_e (e_bs1 (l:=[_]) st rfl rfl rfl rfl underlying74 sizeOf124 rfl rfl rfl zeroValue124 ?_)
 intro b38 w hb38 st
 refine ynk ?_
 refine yfz 8 underlying76 sizeOf74 ?_
 refine vc_e (e_st st 4 rfl rfl rfl rfl sizeOf74 rfl rfl (by(left;exact .head _)) ?_)
 intro w st;dsimp only [setNth,wr] at st
 refine et (vk1 5 (sr ?_))
 refine ym ?_
 refine ya ?_
 refine et (vk1 4 (vc_ret ?_))
 refine vr1 st results21 ?_
 have hsn:gnL (N1++[g]) 0=gnL N1 0++gnC g L.N.length:=by rw [gnL_snoc,Nat.zero_add,hlN]
 refine⟨by unfold putAt;rw [if_neg hf],_,_,_,(((((st.pick [0,1,2,4,5] rfl (by decide)).newOpen (k:=L.N.length) (f:=false) (xb:=xb) (by assumption) (by omega) (by omega)).pick [2,3,0,1] rfl (by decide)).ndTo (i:=1) (N:=N1++[g]) rfl (by simp [hlN]) hsn.symm).loClose (putL g L) ?_ (.inl (.head _)) ?_ ?_).regDone (i:=0) rfl⟩
 ·unfold putL
  rw [if_neg hf,hN1];rfl
 ·intro f hf2
  simp only [List.map_cons,List.map_nil,List.mem_singleton] at hf2
  subst hf2
  simp [hlN]
 simp [hlN];omega
structure CxOk (n0:Nat) (c:Cx) (w:World):Prop where
 sh:DcRow w (·<n0) c.os c.p.shared
 lk:DcRow w (·<n0) c.ol c.p.locks
 th:ThRow w (·<n0) c.ot c.p.threads
 me:c.p.threads[c.ti]?=some c.t
 ls:c.p.shared.length≤1099511627776
 ll:c.p.locks.length≤1099511627776
 lt:c.p.threads.length≤1099511627776
 lc:c.t.locals.length≤1099511627776
theorem CxOk.kept {n0:Nat} {c:Cx} {w w':World} (h:CxOk n0 c w) (s:Same (·<n0) w w'):CxOk n0 c w':=⟨h.sh.kept s,h.lk.kept s,h.th.kept s,h.me,h.ls,h.ll,h.lt,h.lc⟩
abbrev loK (c:Cx):List Value:=[.slice c.os c.p.shared.length c.cs,.slice c.ol c.p.locks.length c.cl,.slice c.ot c.p.threads.length c.ct,.int .i64 (c.ti:Int)]
def lcR (c:Cx) (xb:Nat):Res:=.tree [xb] fun w=>∀ (i:Nat) v,(loK c)[i]?=some v→w.cell? ⟨xb,i,none⟩=some v
theorem _root_.Sx.St.lcs {w0 w:World} {M M':List Nat} {hs:List Res} {base:Nat} {c:Cx} {xb:Nat} {L:LS} {gv qv:Value} {cl:List Clo} (st:St w0 M (loG M' base c xb L gv qv cl::hs) w):St w0 M (lcR c xb::hs) w:=by
 obtain⟨⟨h,-⟩,h2,-⟩:=st.res (i:=0) rfl
 refine st.turn0 (fun k hk=>by simp only [lcR,Res.at?,List.mem_singleton] at hk;subst hk;exact .head _) ⟨fun i v hi=>?_,fun k hk=>by simp only [List.mem_singleton] at hk;subst hk;exact h2 _ (.head _),fun a b hs hk hp i v hi=>(World.cell?_of_block (hk xb (.head _))).trans (hp i v hi)⟩
 refine cell_blk h.cell ?_
 rw [nth_eq]
 have:i<4:=by have:=(List.getElem?_eq_some_iff.1 hi).1;simpa using this
 rcases (by omega:i=0∨i=1∨i=2∨i=3) with rfl|rfl|rfl|rfl <;> exact hi
section
variable {lo sh:List Dc}
theorem va1 {e:Ex} (h:e.k=1) (st:LS):vaL lo sh e st=(.num e.wd,st):=by
 cases e with
 | mk k op wd nm kids a=>simp only [Ex.k] at h;subst h;exact va_1 ..
theorem va2 {e:Ex} (h:e.k=2) (st:LS):vaL lo sh e st=(match idxO lo e.nm with
      | some i=>(.slot i,st)
      | none=>(.slot st.s,putL (mkG 2 0 st.s (idxI sh e.nm) (.num 0) (.num 0)) (slotL st))):=by
 cases e with
 | mk k op wd nm kids a=>simp only [Ex.k] at h;subst h;exact va_2 ..
theorem va3 {e x:Ex} (h:e.k=3) (hk:e.kids=[x]) (st:LS):vaL lo sh e st=(.slot (vaL lo sh x st).2.s,putL (mkG 1 e.op (vaL lo sh x st).2.s 0 (vaL lo sh x st).1 (.num 0)) (slotL (vaL lo sh x st).2)):=by
 cases e with
 | mk k op wd nm kids a=>simp only [Ex.k] at h;simp only [Ex.kids] at hk;subst h hk;exact va_u _ _ (by decide) (by decide) ..
theorem va4 {e x y:Ex} (h:e.k=4) (hk:e.kids=[x,y]) (st:LS):vaL lo sh e st=(.slot (vaL lo sh y (vaL lo sh x st).2).2.s,putL (mkG 1 e.op (vaL lo sh y (vaL lo sh x st).2).2.s 0 (vaL lo sh x st).1 (vaL lo sh y (vaL lo sh x st).2).1) (slotL (vaL lo sh y (vaL lo sh x st).2).2)):=by
 cases e with
 | mk k op wd nm kids a=>simp only [Ex.k] at h;simp only [Ex.kids] at hk;subst h hk;exact va_b _ _ (by decide) (by decide) ..
theorem idxI_some {l:List Dc} {nm:Wd} (h:0≤idxI l nm):∃ k,idxO l nm=some k∧idxI l nm=(k:Int):=by
 unfold idxI at h ⊢
 cases hi:idxO l nm with
 | some k=>exact⟨k,rfl,rfl⟩
 | none=>rw [hi] at h;simp at h
theorem idxI_none {l:List Dc} {nm:Wd} (h:idxI l nm<0):idxO l nm=none:=by
 unfold idxI at h
 cases hi:idxO l nm with
 | some k=>rw [hi] at h;simp at h;omega
 | none=>rfl
end
section
variable {n0:Nat}
def ValC (n0 xb : Nat) (c : Cx) (e : Ex) : Prop := ∀ (L : LS), L.s + szE e ≤ 800000000 → max L.op.length 1 + szE e ≤ 800000000 → ∀ (gv qv : Value) (cl : List Clo) (l : List Value) (w : World), ExV w (· < n0) e l → (∀ k ∈ loS xb gv qv cl, n0 ≤ k) → Lo c xb L gv qv cl w → CxOk n0 c w →
    Ret Tryz.prog 108 [.pointer (some ⟨xb,0,none⟩),.agg l.toArray] w fun v w'=>v=.agg (vlC (vaL c.t.locals c.p.shared e L).1).toArray∧LoP c xb (loS xb gv qv cl) (vaL c.t.locals c.p.shared e L).2 w w'
theorem szE_pos (e:Ex):1≤szE e:=by cases e;simp only [szE];omega
theorem lval1 (xb:Nat) (c:Cx) (e:Ex) (hk1:e.k=1):ValC n0 xb c e:=by
 intro L hsz hop gv qv cl l w hV hS0 hLo hcx
 obtain⟨oa,cap,rfl,hr⟩:=ExV.inv hV
 refine ret_of [_,_] func108 rfl ntmps108 rfl ?_
 have st:=St.init w []
 obtain⟨w0,rfl⟩:∃ w0,w0=w:=⟨_,rfl⟩
 have hn0:n0≤w0.heap.size:=Nat.le_trans (hS0 xb (.head _)) (Nat.le_of_lt (hLo.reg.2.1 xb (.head _)))
 have hpos:=szE_pos e
 replace st:=St.regInit hLo.reg
 refine sr ?_
 refine vc_e (e_bx (l:=[_,_,_,_,_,_]) st rfl rfl rfl rfl ?_)
 intro b3 w hb3 st
 refine vc_e (e_al (l:=[_,_,_]) st rfl rfl zeroValue81 rfl ?_)
 intro b4 w hb4 st
 refine et (vk3 0 3 4 (vc_seq (sr ?_)))
 refine vy (y_fa0 rfl underlying177 rfl rfl sizeOf175 rfl) ?_
 refine yl st 1 isAgg175 ?_
 refine et (vk4 0 3 4 9 (vc_block (sr ?_)))
 refine vy (y_eqi rfl rfl) ?_
 refine ya ?_
 refine et (vk5 0 3 4 9 10 ?_)
 refine vif ?_ ?_
 ·intro hc10
  try simp only [dn] at hc10
  refine sr ?_
  refine yfz 2 underlying177 sizeOf2 ?_
  refine yl st 1 isAgg2 ?_
  refine vy (ybd (.agg #[_,_,_]) [(2,_)]) ?_
  refine vc_e (ests st 0 [_,_,_] sizeOf81 ?_)
  intro w st;dsimp only [setNth,wr] at st
  refine et (vk1 4 (vc_ret (vq_block_ret (vq_then_ret ?_))))
  refine vq_ret1 st (.inl rfl) results108 (by exact .cell 0 rfl rfl isAgg81 sizeOf81) ?_
  refine⟨_,rfl,?_⟩
  rw [va1 hk1]
  exact⟨rfl,gv,qv,cl,st.regDone (i:=2) rfl⟩
 intro hc10
 exfalso;simp only [decide_eq_false_iff_not] at hc10;omega
set_option maxHeartbeats 1000000 in
theorem lval2 (xb:Nat) (c:Cx) (e:Ex) (hk2:e.k=2):ValC n0 xb c e:=by
 intro L hsz hop gv qv cl l w hV hS0 hLo hcx
 obtain⟨oa,cap,rfl,hr⟩:=ExV.inv hV
 refine ret_of [_,_] func108 rfl ntmps108 rfl ?_
 have st:=St.init w []
 obtain⟨w0,rfl⟩:∃ w0,w0=w:=⟨_,rfl⟩
 have hn0:n0≤w0.heap.size:=Nat.le_trans (hS0 xb (.head _)) (Nat.le_of_lt (hLo.reg.2.1 xb (.head _)))
 have hpos:=szE_pos e
 replace st:=St.regInit hLo.reg
 refine sr ?_
 refine vc_e (e_bx (l:=[_,_,_,_,_,_]) st rfl rfl rfl rfl ?_)
 intro b3 w hb3 st
 refine vc_e (e_al (l:=[_,_,_]) st rfl rfl zeroValue81 rfl ?_)
 intro b4 w hb4 st
 refine et (vk3 0 3 4 (vc_seq (sr ?_)))
 refine vy (y_fa0 rfl underlying177 rfl rfl sizeOf175 rfl) ?_
 refine yl st 1 isAgg175 ?_
 refine et (vk4 0 3 4 9 (vc_block (sr ?_)))
 refine vy (y_eqi rfl rfl) ?_
 refine ya ?_
 refine et (vk5 0 3 4 9 10 ?_)
 refine vif ?_ ?_
 ·intro hc10
  exfalso;simp only [decide_eq_true_eq] at hc10;omega
 intro hc10
 try simp only [dn] at hc10
 refine sr ?_
 refine vy (y_eqi rfl rfl) ?_
 refine ya ?_
 refine et (vk4 0 3 4 15 ?_)
 refine vif ?_ ?_
 ·intro hc15
  try simp only [dn] at hc15
  refine vc_seq (vc_seq ?_)
  refine vc_draw Tryz.mixed [(0,true),(1,true),(2,true),(3,true),(4,true),(5,true),(6,true),(7,true),(8,true),(9,true),(10,false),(11,true)] (fun w=>St _ _ [lcR c xb,.blk b4 (.cells [.bool false,.int .i64 0,.int .i64 0].toArray 81 (0,0)),.blk b3 (.cells (exL e oa cap).toArray 177 (0,0))] w) (by exact(st.pick [2,0,1] rfl (by decide)).lcs) (by kernel_rfl) (by repeat (first|exact okQ_noPan|exact okQ_body|exact okQ_bodyS|refine okQ_then ?_|refine okQ_block ?_)) rfl (by kernel_rfl) ?_
  intro w cd;replace st:=st.call0 cd;clear cd
  have hS:St _ _ [lcR c xb,.blk b4 (.cells [.bool false,.int .i64 0,.int .i64 0].toArray 81 (0,0)),.blk b3 (.cells (exL e oa cap).toArray 177 (0,0))] w:=(by exact(st.pick [2,0,1] rfl (by decide)).lcs)
  refine pm hS ?_
  refine pnk hS ?_
  refine pf0 hS underlying76 sizeOf26 ?_
  refine vp_take rfl rfl rfl hS (fun w st=>(by exact y_ldca [.slice c.os c.p.shared.length c.cs,.slice c.ol c.p.locks.length c.cl,.slice c.ot c.p.threads.length c.ct] rfl isAgg26 sizeOf26 rfl (fun i v hi=>by have hp:=(st.res (i:=0) rfl).1;have:i<3:=(by have:=(List.getElem?_eq_some_iff.1 hi).1;simpa using this);rw [Nat.zero_add];exact hp i v (by rcases (by omega:i=0∨i=1∨i=2) with rfl|rfl|rfl <;> exact hi)))) ?_
  refine pm hS ?_
  refine pnk hS ?_
  refine pfz hS 3 underlying76 sizeOf3 ?_
  refine vp_take rfl rfl rfl hS (fun w st=>y_ldc rfl isAgg3 ((st.res (i:=0) rfl).1 3 _ rfl)) ?_
  refine pfz hS 3 underlying177 sizeOf9 ?_
  refine pld hS 2 isAgg9 ?_
  refine vp_do rfl (e_call [_,_,_] rfl rfl call109 rfl (clocal_any c.p c.t c.ti hcx.me c.os c.ol c.ot c.cs c.cl c.ct _ _ e.nm n0 _ (hcx.th.kept (.of_chg st.chg (fun b hb hm=>absurd (hS0 b hm) (by omega)))) hcx.lc) ?_)
  rintro _ w ⟨rfl,cw⟩
  replace st:=st.call0 cw
  refine vp_next (by exact(st.pick [2,0,1] rfl (by decide)).lcs) ?_;intro hS
  refine vp_take rfl rfl rfl hS (fun w st=>y_as rfl) ?_
  refine vp_end (vq_then (vk4 0 3 4 5 (sr ?_)))
  refine ym ?_
  refine vy (y_geq rfl rfl) ?_
  refine et (vk5 0 3 4 5 29 ?_)
  refine vif ?_ ?_
  ·intro hc29
   try simp only [dn] at hc29
   obtain⟨k,hk1,hk2⟩:=idxI_some (by omega:0≤idxI c.t.locals e.nm)
   rw [hk2]
   refine sr ?_
   refine ym ?_
   refine vc_e (e_call [_] rfl rfl call111 rfl (lin_any _ _) ?_)
   rintro _ w ⟨rfl,cw⟩
   replace st:=st.call0 cw
   refine vc_e (ests st 0 [_,_,_] sizeOf81 ?_)
   intro w st;dsimp only [setNth,wr] at st
   refine et (vk1 4 (vc_ret (vq_then_ret (vq_block_ret (vq_then_ret ?_)))))
   refine vq_ret1 st (.inl rfl) results108 (by exact .cell 0 rfl rfl isAgg81 sizeOf81) ?_
   refine⟨_,rfl,?_⟩
   rw [va2 (by assumption),hk1]
   exact⟨rfl,gv,qv,cl,st.regDone (i:=2) rfl⟩
  intro hc29
  try simp only [dn] at hc29
  have hno:=idxI_none (by omega:idxI c.t.locals e.nm<0)
  refine kt (vk3 0 3 4 (vc_seq ?_))
  refine vd_draw Tryz.mixed (.take 0 (.take 1 (.take 2 (.take 3 (.take 4 (.take 5 (.take 7 (.two 6 10 (.two 8 10 (.take 9 (.one 10 (.one 11 .done))) (.one 8 (.take 9 (.one 11 .done)))) (.one 6 (.one 8 (.take 9 (.one 11 .done)))))))))))) (fun w=>St _ _ [lcR c xb,.blk b4 (.cells [.bool false,.int .i64 0,.int .i64 0].toArray 81 (0,0)),.blk b3 (.cells (exL e oa cap).toArray 177 (0,0))] w) (by exact(st.pick [2,0,1] rfl (by decide)).lcs) (by kernel_rfl) (by repeat (first|exact okQ_noPan|exact okQ_body|exact okQ_bodyS|refine okQ_then ?_|refine okQ_block ?_)) rfl (by kernel_rfl) ?_
  intro w cd;replace st:=st.call0 cd;clear cd
  have hS:St _ _ [lcR c xb,.blk b4 (.cells [.bool false,.int .i64 0,.int .i64 0].toArray 81 (0,0)),.blk b3 (.cells (exL e oa cap).toArray 177 (0,0))] w:=(by exact(st.pick [2,0,1] rfl (by decide)).lcs)
  refine dm hS ?_
  refine dnk hS ?_
  refine df0 hS underlying76 sizeOf26 ?_
  refine vd_take rfl rfl rfl hS (fun w st=>(by exact y_ldca [.slice c.os c.p.shared.length c.cs,.slice c.ol c.p.locks.length c.cl,.slice c.ot c.p.threads.length c.ct] rfl isAgg26 sizeOf26 rfl (fun i v hi=>by have hp:=(st.res (i:=0) rfl).1;have:i<3:=(by have:=(List.getElem?_eq_some_iff.1 hi).1;simpa using this);rw [Nat.zero_add];exact hp i v (by rcases (by omega:i=0∨i=1∨i=2) with rfl|rfl|rfl <;> exact hi)))) ?_
  refine dfz hS 3 underlying177 sizeOf9 ?_
  refine dld hS 2 isAgg9 ?_
  refine dm hS ?_
  refine vd_two rfl rfl ?_ ?_
  focus
   refine(e_call [_,_] rfl rfl call69 rfl (cshared_any c.p.shared c.os c.ol c.ot c.cs c.cl c.ct _ _ e.nm n0 _ (hcx.sh.kept (.of_chg st.chg (fun b hb hm=>absurd (hS0 b hm) (by omega)))) hcx.ls) ?_)
   rintro _ w ⟨rfl,cw⟩
   replace st:=st.call0 cw
   refine vd_next (by exact(st.pick [2,0,1] rfl (by decide)).lcs) ?_;intro hS
   refine vd_two rfl rfl ?_ ?_
   refine(e_call [_] rfl rfl call110 rfl (by exact lslot_any c xb L (by omega) gv qv cl _ (st.regGet (i:=2) rfl).1) ?_)
   rintro _ w ⟨rfl,pp⟩
   replace st:=st.regP (i:=2) rfl pp
   dsimp only [setNth] at st
   refine vd_next (by exact(st.pick [2,0,1] rfl (by decide)).lcs) ?_;intro hS
   refine vd_take rfl rfl rfl hS (fun w st=>ybd (.agg #[_,_,_,_,_,_,_,_,_,_,_,_,_]) [(0,_),(3,_),(2,_)]) ?_
   refine vd_do rfl (e_al (l:=[_,_,_,_,_,_,_,_,_,_,_,_,_]) st rfl rfl zeroValue83 rfl ?_)
   intro b6 w hb6 st
   refine vd_next (by exact(st.pick [3,1,2] rfl (by decide)).lcs) ?_;intro hS
   rotate_left
   refine(e_al (l:=[_,_,_,_,_,_,_,_,_,_,_,_,_]) st rfl rfl zeroValue83 rfl ?_)
   intro b6 w hb6 st
   refine vd_next (by exact(st.pick [3,1,2] rfl (by decide)).lcs) ?_;intro hS
   refine vd_do rfl (e_call [_] rfl rfl call110 rfl (by exact lslot_any c xb L (by omega) gv qv cl _ (st.regGet (i:=3) rfl).1) ?_)
   rintro _ w ⟨rfl,pp⟩
   replace st:=st.regP (i:=3) rfl pp
   dsimp only [setNth] at st
   refine vd_next (by exact(st.pick [3,1,2] rfl (by decide)).lcs) ?_;intro hS
   refine vd_take rfl rfl rfl hS (fun w st=>ybd (.agg #[_,_,_,_,_,_,_,_,_,_,_,_,_]) [(0,_),(3,_),(2,_)]) ?_
  rotate_left 2
  refine(e_al (l:=[_,_,_,_,_,_,_,_,_,_,_,_,_]) st rfl rfl zeroValue83 rfl ?_)
  intro b6 w hb6 st
  refine vd_next (by exact(st.pick [3,1,2] rfl (by decide)).lcs) ?_;intro hS
  refine vd_do rfl (e_call [_,_] rfl rfl call69 rfl (cshared_any c.p.shared c.os c.ol c.ot c.cs c.cl c.ct _ _ e.nm n0 _ (hcx.sh.kept (.of_chg st.chg (fun b hb hm=>absurd (hS0 b hm) (by omega)))) hcx.ls) ?_)
  rintro _ w ⟨rfl,cw⟩
  replace st:=st.call0 cw
  refine vd_next (by exact(st.pick [3,1,2] rfl (by decide)).lcs) ?_;intro hS
  refine vd_do rfl (e_call [_] rfl rfl call110 rfl (by exact lslot_any c xb L (by omega) gv qv cl _ (st.regGet (i:=3) rfl).1) ?_)
  rintro _ w ⟨rfl,pp⟩
  replace st:=st.regP (i:=3) rfl pp
  dsimp only [setNth] at st
  refine vd_next (by exact(st.pick [3,1,2] rfl (by decide)).lcs) ?_;intro hS
  refine vd_take rfl rfl rfl hS (fun w st=>ybd (.agg #[_,_,_,_,_,_,_,_,_,_,_,_,_]) [(0,_),(3,_),(2,_)]) ?_
  all_goals
   refine vd_do rfl (ests st 0 [_,_,_,_,_,_,_,_,_,_,_,_,_] sizeOf83 ?_)
   intro w st;dsimp only [setNth,wr] at st
   refine vd_next (by exact(st.pick [3,1,2] rfl (by decide)).lcs) ?_;intro hS
   refine vd_end (vq_then (vk3 0 4 6 (sr ?_)))
   refine ym ?_
   refine yla st 0 [_,_,_,_,_,_,_,_,_,_,_,_,_] isAgg83 sizeOf83 ?_
   refine vc_e (e_call [_,_] rfl rfl call21 rfl (lput_any c xb (slotL L) gv qv cl (mkG 2 0 L.s (idxI c.p.shared e.nm) (.num 0) (.num 0)) _ (st.regGet (i:=3) rfl).1 (by show L.op.length≤_;omega)) ?_)
   rintro _ w ⟨rfl,gv1,qv1,cl1,pp⟩
   replace st:=st.regP (i:=3) rfl pp
   dsimp only [setNth] at st
   refine et (vk2 4 6 (sr ?_))
   refine yfz 2 underlying83 sizeOf3 ?_
   refine yl st 0 isAgg3 ?_
   refine vc_e (e_call [_] rfl rfl call111 rfl (lin_any _ _) ?_)
   rintro _ w ⟨rfl,cw⟩
   replace st:=st.call0 cw
   refine vc_e (ests st 1 [_,_,_] sizeOf81 ?_)
   intro w st;dsimp only [setNth,wr] at st
   refine et (vk1 4 (vc_ret (vq_block_ret (vq_then_ret ?_))))
   refine vq_ret1 st (.inl rfl) results108 (by exact .cell 1 rfl rfl isAgg81 sizeOf81) ?_
   refine⟨_,rfl,?_⟩
   rw [va2 (by assumption),hno]
   exact⟨rfl,gv1,qv1,cl1,st.regDone (i:=3) rfl⟩
 intro hc15
 exfalso;simp only [decide_eq_false_iff_not] at hc15;omega
set_option maxHeartbeats 1000000 in
theorem lval3 (xb:Nat) (c:Cx) (e x:Ex) (hk3:e.k=3) (hone:oneOp e.op=true) (hkk:e.kids=[x]) (hcx2:ValC n0 xb c x):ValC n0 xb c e:=by
 intro L hsz hop gv qv cl l w hV hS0 hLo hcx
 obtain⟨oa,cap,rfl,hr⟩:=ExV.inv hV
 refine ret_of [_,_] func108 rfl ntmps108 rfl ?_
 have st:=St.init w []
 obtain⟨w0,rfl⟩:∃ w0,w0=w:=⟨_,rfl⟩
 have hn0:n0≤w0.heap.size:=Nat.le_trans (hS0 xb (.head _)) (Nat.le_of_lt (hLo.reg.2.1 xb (.head _)))
 have hpos:=szE_pos e
 replace st:=St.regInit hLo.reg
 have hx:e.kids[0]?=some x:=by rw [hkk];rfl
 obtain⟨gb,go,rfl,hgS,hgl,hg⟩:=ExRow.at hr (by rw [hkk];simp)
 have hgS2:gb<n0:=hgS
 obtain⟨o0,c0,hV0,hr0,hc0⟩:=hg 0 x hx
 have hl1:0<e.kids.length:=by rw [hkk];simp
 have hzx:=szE_kid hx
 have hf1:=va_few' (lo:=c.t.locals) (sh:=c.p.shared) x L
 have hf1s:=hf1.1
 have hf1o:=hf1.2
 have h2:twoOp e.op=false:=by
  have hop1:=of_decide_eq_true hone
  rcases hop1 with h|h <;> rw [h] <;> decide
 refine sr ?_
 refine vc_e (e_bx (l:=[_,_,_,_,_,_]) st rfl rfl rfl rfl ?_)
 intro b3 w hb3 st
 refine vc_e (e_al (l:=[_,_,_]) st rfl rfl zeroValue81 rfl ?_)
 intro b4 w hb4 st
 refine et (vk3 0 3 4 (vc_seq (sr ?_)))
 refine vy (y_fa0 rfl underlying177 rfl rfl sizeOf175 rfl) ?_
 refine yl st 1 isAgg175 ?_
 refine et (vk4 0 3 4 9 (vc_block (sr ?_)))
 refine vy (y_eqi rfl rfl) ?_
 refine ya ?_
 refine et (vk5 0 3 4 9 10 ?_)
 refine vif ?_ ?_
 ·intro hc10
  exfalso;simp only [decide_eq_true_eq] at hc10;omega
 intro hc10
 try simp only [dn] at hc10
 refine sr ?_
 refine vy (y_eqi rfl rfl) ?_
 refine ya ?_
 refine et (vk4 0 3 4 15 ?_)
 refine vif ?_ ?_
 ·intro hc15
  exfalso;simp only [decide_eq_true_eq] at hc15;omega
 intro hc15
 try simp only [dn] at hc15
 refine vc_code_skip (vq_block (vq_then (vk3 0 3 4 (vc_seq ?_))))
 refine ddr Tryz.mixed (.take 0 (.take 1 (.take 2 (.take 3 (.take 4 (.take 5 (.take 6 (.two 7 9 (.take 8 (.one 9 (.one 10 .done))) (.one 7 (.take 8 (.one 10 .done))))))))))) [.blk b4 (.cells [.bool false,.int .i64 0,.int .i64 0].toArray 81 (0,0)),.blk b3 (.cells (exL e (some ⟨gb,go,none⟩) cap).toArray 177 (0,0))] st ?_
 clear st;intro w st hS
 refine dfz hS 1 underlying177 sizeOf57 ?_
 refine dld hS 1 isAgg57 ?_
 refine dm hS ?_
 refine dfz hS 4 underlying177 sizeOf142 ?_
 refine dld hS 1 isAgg142 ?_
 refine vd_take rfl rfl rfl hS (fun w st=>y_ia (k:=0) rfl rfl underlying142 sizeOf177 rfl (by omega)) ?_
 refine vd_take rfl rfl rfl hS (fun w st=>y_ldca (exL x o0 c0) rfl isAgg177 sizeOf177 rfl (fun i v hi=>st.chg.cell (hc0 i v hi) (fun hm=>absurd (hS0 gb hm) (by omega)))) ?_
 refine vd_two rfl rfl ?_ ?_
 refine(e_call [_,_] rfl rfl call108 rfl (hcx2 L (by  omega) (by  omega) gv qv cl _ _ (hV0.kept (.of_chg st.chg (fun b hb hm=>absurd (hS0 b hm) (by omega)))) (fun k hk=>by rcases (st.res (i:=2) rfl).1.2 k hk with h|h;exact hS0 k h;omega) (st.regGet (i:=2) rfl).1 (hcx.kept (.of_chg st.chg (fun b hb hm=>absurd (hS0 b hm) (by omega))))) ?_)
 rintro _ w ⟨rfl,gv1,qv1,cl1,pp⟩
 replace st:=st.regP (i:=2) rfl pp
 dsimp only [setNth] at st
 refine vd_next st.dr ?_;intro hS
 refine vd_take rfl rfl rfl hS (fun w st=>ybd (.agg #[_,_,_,_,_,_,_,_,_,_,_,_,_]) [(0,_),(1,_),(4,_)]) ?_
 refine vd_do rfl (e_al (l:=[_,_,_,_,_,_,_,_,_,_,_,_,_]) st rfl rfl zeroValue83 rfl ?_)
 intro b7 w hb7 st
 refine vd_next st.dr ?_;intro hS
 rotate_left
 refine(e_al (l:=[_,_,_,_,_,_,_,_,_,_,_,_,_]) st rfl rfl zeroValue83 rfl ?_)
 intro b7 w hb7 st
 refine vd_next st.dr ?_;intro hS
 refine vd_do rfl (e_call [_,_] rfl rfl call108 rfl (hcx2 L (by  omega) (by  omega) gv qv cl _ _ (hV0.kept (.of_chg st.chg (fun b hb hm=>absurd (hS0 b hm) (by omega)))) (fun k hk=>by rcases (st.res (i:=3) rfl).1.2 k hk with h|h;exact hS0 k h;omega) (st.regGet (i:=3) rfl).1 (hcx.kept (.of_chg st.chg (fun b hb hm=>absurd (hS0 b hm) (by omega))))) ?_)
 rintro _ w ⟨rfl,gv1,qv1,cl1,pp⟩
 replace st:=st.regP (i:=3) rfl pp
 dsimp only [setNth] at st
 refine vd_next st.dr ?_;intro hS
 refine vd_take rfl rfl rfl hS (fun w st=>ybd (.agg #[_,_,_,_,_,_,_,_,_,_,_,_,_]) [(0,_),(1,_),(4,_)]) ?_
 all_goals
  refine vd_do rfl (ests st 0 [_,_,_,_,_,_,_,_,_,_,_,_,_] sizeOf83 ?_)
  intro w st;dsimp only [setNth,wr] at st
  refine vd_next st.dr ?_;intro hS
  refine vd_end (vq_then (vk4 0 3 4 7 (vc_seq (sr ?_))))
  refine yfz 1 underlying177 sizeOf57 ?_
  refine yl st 2 isAgg57 ?_
  refine vc_e (e_call [_] rfl rfl call33 rfl (two_any _ _) ?_)
  rintro _ _ ⟨rfl,rfl⟩
  refine et (vk5 0 3 4 7 59 ?_)
  refine vif ?_ ?_
  ·intro hc59
   exfalso;simp_all
  ·intro hc59
   try simp only [dn] at hc59
   refine kt (vk3 0 4 7 (sr ?_))
   refine ym ?_
   refine vc_e (e_call [_] rfl rfl call110 rfl (lslot_any c xb (vaL c.t.locals c.p.shared x L).2 (by omega) gv1 qv1 cl1 _ (st.regGet (i:=3) rfl).1) ?_)
   rintro _ w ⟨rfl,pp⟩
   replace st:=st.regP (i:=3) rfl pp
   dsimp only [setNth] at st
   refine yfz 2 underlying83 sizeOf3 ?_
   refine vc_e (est st 0 sizeOf3 ?_)
   intro w st;dsimp only [setNth,wr] at st
   refine et (vk3 0 4 7 (sr ?_))
   refine ym ?_
   refine yla st 0 [_,_,_,_,_,_,_,_,_,_,_,_,_] isAgg83 sizeOf83 ?_
   refine vc_e (e_call [_,_] rfl rfl call21 rfl (lput_any c xb (slotL (vaL c.t.locals c.p.shared x L).2) gv1 qv1 cl1 (mkG 1 e.op (vaL c.t.locals c.p.shared x L).2.s 0 (vaL c.t.locals c.p.shared x L).1 (.num 0)) _ (st.regGet (i:=3) rfl).1 (by show (vaL c.t.locals c.p.shared x L).2.op.length≤_;omega)) ?_)
   rintro _ w ⟨rfl,gv2,qv2,cl2,pp⟩
   replace st:=st.regP (i:=3) rfl pp
   dsimp only [setNth] at st
   refine et (vk2 4 7 (sr ?_))
   refine yfz 2 underlying83 sizeOf3 ?_
   refine yl st 0 isAgg3 ?_
   refine vc_e (e_call [_] rfl rfl call111 rfl (lin_any _ _) ?_)
   rintro _ w ⟨rfl,cw⟩
   replace st:=st.call0 cw
   refine vc_e (ests st 1 [_,_,_] sizeOf81 ?_)
   intro w st;dsimp only [setNth,wr] at st
   refine et (vk1 4 (vc_ret ?_))
   refine vq_ret1 st (.inl rfl) results108 (by exact .cell 1 rfl rfl isAgg81 sizeOf81) ?_
   refine⟨_,rfl,?_⟩
   rw [va3 hk3 hkk]
   exact⟨rfl,gv2,qv2,cl2,st.regDone (i:=3) rfl⟩
set_option maxHeartbeats 1000000 in
theorem lval4 (xb:Nat) (c:Cx) (e x y:Ex) (hk4:e.k=4) (hop:twoOp e.op=true) (hkk:e.kids=[x,y]) (hcx2:ValC n0 xb c x) (hcy:ValC n0 xb c y):ValC n0 xb c e:=by
 intro L hsz hop gv qv cl l w hV hS0 hLo hcx
 obtain⟨oa,cap,rfl,hr⟩:=ExV.inv hV
 refine ret_of [_,_] func108 rfl ntmps108 rfl ?_
 have st:=St.init w []
 obtain⟨w0,rfl⟩:∃ w0,w0=w:=⟨_,rfl⟩
 have hn0:n0≤w0.heap.size:=Nat.le_trans (hS0 xb (.head _)) (Nat.le_of_lt (hLo.reg.2.1 xb (.head _)))
 have hpos:=szE_pos e
 replace st:=St.regInit hLo.reg
 have hx:e.kids[0]?=some x:=by rw [hkk];rfl
 obtain⟨gb,go,rfl,hgS,hgl,hg⟩:=ExRow.at hr (by rw [hkk];simp)
 have hgS2:gb<n0:=hgS
 obtain⟨o0,c0,hV0,hr0,hc0⟩:=hg 0 x hx
 have hy:e.kids[1]?=some y:=by rw [hkk];rfl
 obtain⟨o1,c1,hV1,hr1,hc1⟩:=hg 1 y hy
 have hl1:1<e.kids.length:=by rw [hkk];simp
 have hzx:=szE_kid hx
 have hzy:szE x+szE y<szE e:=by
  have:szEs e.kids=szE x+szE y:=by rw [hkk];simp [szEs]
  cases e with
  | mk k op wd nm kids a=>simp only [Ex.kids] at this;simp only [szE];omega
 have hf1:=va_few' (lo:=c.t.locals) (sh:=c.p.shared) x L
 have hf1s:=hf1.1
 have hf1o:=hf1.2
 have hf2:=va_few' (lo:=c.t.locals) (sh:=c.p.shared) y (vaL c.t.locals c.p.shared x L).2
 have hf2s:=hf2.1
 have hf2o:=hf2.2
 refine sr ?_
 refine vc_e (e_bx (l:=[_,_,_,_,_,_]) st rfl rfl rfl rfl ?_)
 intro b3 w hb3 st
 refine vc_e (e_al (l:=[_,_,_]) st rfl rfl zeroValue81 rfl ?_)
 intro b4 w hb4 st
 refine et (vk3 0 3 4 (vc_seq (sr ?_)))
 refine vy (y_fa0 rfl underlying177 rfl rfl sizeOf175 rfl) ?_
 refine yl st 1 isAgg175 ?_
 refine et (vk4 0 3 4 9 (vc_block (sr ?_)))
 refine vy (y_eqi rfl rfl) ?_
 refine ya ?_
 refine et (vk5 0 3 4 9 10 ?_)
 refine vif ?_ ?_
 ·intro hc10
  exfalso;simp only [decide_eq_true_eq] at hc10;omega
 intro hc10
 try simp only [dn] at hc10
 refine sr ?_
 refine vy (y_eqi rfl rfl) ?_
 refine ya ?_
 refine et (vk4 0 3 4 15 ?_)
 refine vif ?_ ?_
 ·intro hc15
  exfalso;simp only [decide_eq_true_eq] at hc15;omega
 intro hc15
 try simp only [dn] at hc15
 refine vc_code_skip (vq_block (vq_then (vk3 0 3 4 (vc_seq ?_))))
 refine ddr Tryz.mixed (.take 0 (.take 1 (.take 2 (.take 3 (.take 4 (.take 5 (.take 6 (.two 7 9 (.take 8 (.one 9 (.one 10 .done))) (.one 7 (.take 8 (.one 10 .done))))))))))) [.blk b4 (.cells [.bool false,.int .i64 0,.int .i64 0].toArray 81 (0,0)),.blk b3 (.cells (exL e (some ⟨gb,go,none⟩) cap).toArray 177 (0,0))] st ?_
 clear st;intro w st hS
 refine dfz hS 1 underlying177 sizeOf57 ?_
 refine dld hS 1 isAgg57 ?_
 refine dm hS ?_
 refine dfz hS 4 underlying177 sizeOf142 ?_
 refine dld hS 1 isAgg142 ?_
 refine vd_take rfl rfl rfl hS (fun w st=>y_ia (k:=0) rfl rfl underlying142 sizeOf177 rfl (by omega)) ?_
 refine vd_take rfl rfl rfl hS (fun w st=>y_ldca (exL x o0 c0) rfl isAgg177 sizeOf177 rfl (fun i v hi=>st.chg.cell (hc0 i v hi) (fun hm=>absurd (hS0 gb hm) (by omega)))) ?_
 refine vd_two rfl rfl ?_ ?_
 refine(e_call [_,_] rfl rfl call108 rfl (hcx2 L (by  omega) (by  omega) gv qv cl _ _ (hV0.kept (.of_chg st.chg (fun b hb hm=>absurd (hS0 b hm) (by omega)))) (fun k hk=>by rcases (st.res (i:=2) rfl).1.2 k hk with h|h;exact hS0 k h;omega) (st.regGet (i:=2) rfl).1 (hcx.kept (.of_chg st.chg (fun b hb hm=>absurd (hS0 b hm) (by omega))))) ?_)
 rintro _ w ⟨rfl,gv1,qv1,cl1,pp⟩
 replace st:=st.regP (i:=2) rfl pp
 dsimp only [setNth] at st
 refine vd_next st.dr ?_;intro hS
 refine vd_take rfl rfl rfl hS (fun w st=>ybd (.agg #[_,_,_,_,_,_,_,_,_,_,_,_,_]) [(0,_),(1,_),(4,_)]) ?_
 refine vd_do rfl (e_al (l:=[_,_,_,_,_,_,_,_,_,_,_,_,_]) st rfl rfl zeroValue83 rfl ?_)
 intro b7 w hb7 st
 refine vd_next st.dr ?_;intro hS
 rotate_left
 refine(e_al (l:=[_,_,_,_,_,_,_,_,_,_,_,_,_]) st rfl rfl zeroValue83 rfl ?_)
 intro b7 w hb7 st
 refine vd_next st.dr ?_;intro hS
 refine vd_do rfl (e_call [_,_] rfl rfl call108 rfl (hcx2 L (by  omega) (by  omega) gv qv cl _ _ (hV0.kept (.of_chg st.chg (fun b hb hm=>absurd (hS0 b hm) (by omega)))) (fun k hk=>by rcases (st.res (i:=3) rfl).1.2 k hk with h|h;exact hS0 k h;omega) (st.regGet (i:=3) rfl).1 (hcx.kept (.of_chg st.chg (fun b hb hm=>absurd (hS0 b hm) (by omega))))) ?_)
 rintro _ w ⟨rfl,gv1,qv1,cl1,pp⟩
 replace st:=st.regP (i:=3) rfl pp
 dsimp only [setNth] at st
 refine vd_next st.dr ?_;intro hS
 refine vd_take rfl rfl rfl hS (fun w st=>ybd (.agg #[_,_,_,_,_,_,_,_,_,_,_,_,_]) [(0,_),(1,_),(4,_)]) ?_
 all_goals
  refine vd_do rfl (ests st 0 [_,_,_,_,_,_,_,_,_,_,_,_,_] sizeOf83 ?_)
  intro w st;dsimp only [setNth,wr] at st
  refine vd_next st.dr ?_;intro hS
  refine vd_end (vq_then (vk4 0 3 4 7 (vc_seq (sr ?_))))
  refine yfz 1 underlying177 sizeOf57 ?_
  refine yl st 2 isAgg57 ?_
  refine vc_e (e_call [_] rfl rfl call33 rfl (two_any _ _) ?_)
  rintro _ _ ⟨rfl,rfl⟩
  refine et (vk5 0 3 4 7 59 ?_)
  refine vif ?_ ?_
  ·intro hc59
   try simp only [dn] at hc59
   refine vc_region ?_
   refine ym ?_
   refine yfz 4 underlying177 sizeOf142 ?_
   refine yl st 2 isAgg142 ?_
   refine vy (y_ia (k:=1) rfl rfl underlying142 sizeOf177 rfl (by omega)) ?_
   refine vy (y_ldca (exL y o1 c1) rfl isAgg177 sizeOf177 rfl (fun i v hi=>st.chg.cell (hc1 i v hi) (fun hm=>absurd (hS0 gb hm) (by omega)))) ?_
   refine vc_e (e_call [_,_] rfl rfl call108 rfl (hcy (vaL c.t.locals c.p.shared x L).2 (by  omega) (by  omega) gv1 qv1 cl1 _ _ (hV1.kept (.of_chg st.chg (fun b hb hm=>absurd (hS0 b hm) (by omega)))) (fun k hk=>by rcases (st.res (i:=3) rfl).1.2 k hk with h|h;exact hS0 k h;omega) (st.regGet (i:=3) rfl).1 (hcx.kept (.of_chg st.chg (fun b hb hm=>absurd (hS0 b hm) (by omega))))) ?_)
   rintro _ w ⟨rfl,gv2,qv2,cl2,pp⟩
   replace st:=st.regP (i:=3) rfl pp
   dsimp only [setNth] at st
   refine yfz 7 underlying83 sizeOf81 ?_
   refine vc_e (ests st 0 [_,_,_] sizeOf81 ?_)
   intro w st;dsimp only [setNth,wr] at st
   refine et (vk3 0 4 7 (sr ?_))
   refine ym ?_
   refine vc_e (e_call [_] rfl rfl call110 rfl (lslot_any c xb (vaL c.t.locals c.p.shared y (vaL c.t.locals c.p.shared x L).2).2 (by omega) gv2 qv2 cl2 _ (st.regGet (i:=3) rfl).1) ?_)
   rintro _ w ⟨rfl,pp⟩
   replace st:=st.regP (i:=3) rfl pp
   dsimp only [setNth] at st
   refine yfz 2 underlying83 sizeOf3 ?_
   refine vc_e (est st 0 sizeOf3 ?_)
   intro w st;dsimp only [setNth,wr] at st
   refine et (vk3 0 4 7 (sr ?_))
   refine ym ?_
   refine yla st 0 [_,_,_,_,_,_,_,_,_,_,_,_,_] isAgg83 sizeOf83 ?_
   refine vc_e (e_call [_,_] rfl rfl call21 rfl (lput_any c xb (slotL (vaL c.t.locals c.p.shared y (vaL c.t.locals c.p.shared x L).2).2) gv2 qv2 cl2 (mkG 1 e.op (vaL c.t.locals c.p.shared y (vaL c.t.locals c.p.shared x L).2).2.s 0 (vaL c.t.locals c.p.shared x L).1 (vaL c.t.locals c.p.shared y (vaL c.t.locals c.p.shared x L).2).1) _ (st.regGet (i:=3) rfl).1 (by show (vaL c.t.locals c.p.shared y (vaL c.t.locals c.p.shared x L).2).2.op.length≤_;omega)) ?_)
   rintro _ w ⟨rfl,gv3,qv3,cl3,pp⟩
   replace st:=st.regP (i:=3) rfl pp
   dsimp only [setNth] at st
   refine et (vk2 4 7 (sr ?_))
   refine yfz 2 underlying83 sizeOf3 ?_
   refine yl st 0 isAgg3 ?_
   refine vc_e (e_call [_] rfl rfl call111 rfl (lin_any _ _) ?_)
   rintro _ w ⟨rfl,cw⟩
   replace st:=st.call0 cw
   refine vc_e (ests st 1 [_,_,_] sizeOf81 ?_)
   intro w st;dsimp only [setNth,wr] at st
   refine et (vk1 4 (vc_ret ?_))
   refine vq_ret1 st (.inl rfl) results108 (by exact .cell 1 rfl rfl isAgg81 sizeOf81) ?_
   refine⟨_,rfl,?_⟩
   rw [va4 hk4 hkk]
   exact⟨rfl,gv3,qv3,cl3,st.regDone (i:=3) rfl⟩
  ·intro hc59
   exfalso;simp_all
theorem lvalue_any (xb:Nat) (c:Cx):∀ (n:Nat) (e:Ex),szo e=n→∀ d,rightE e d=true→ValC n0 xb c e:=by
 intro n
 refine Nat.strongRecOn n fun n ih=>?_
 intro e hn d hr
 obtain⟨-,h⟩:=rightE_iff.1 hr
 rcases h with ⟨h1,-⟩|⟨h1,-⟩|⟨h1,hop,-,-,x,h5,hx⟩|⟨h1,hop,-,-,x,y,h5,hx,hy⟩
 ·exact lval1 xb c e h1
 ·exact lval2 xb c e h1
 ·have hm:=memE_lt (e:=e) (x:=x) (by rw [h5];exact .head _)
  exact lval3 xb c e x h1 hop h5 (ih _ (by rw [← hn];exact hm) x rfl _ hx)
 ·have hm:=memE_lt (e:=e) (x:=x) (by rw [h5];exact .head _)
  have hm2:=memE_lt (e:=e) (x:=y) (by rw [h5];exact .tail _ (.head _))
  exact lval4 xb c e x y h1 hop h5 (ih _ (by rw [← hn];exact hm) x rfl _ hx) (ih _ (by rw [← hn];exact hm2) y rfl _ hy)
end
end Go.Proofs.YtkhpdpenlnhbiaaGreatDoor
