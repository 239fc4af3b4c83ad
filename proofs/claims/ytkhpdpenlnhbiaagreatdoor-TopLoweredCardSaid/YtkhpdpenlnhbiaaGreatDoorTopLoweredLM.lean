/- A part of the proof: contracts of functions and plain laws; each theorem says its own conditions. -/
import Derived.Test.YtkhpdpenlnhbiaaGreatDoorTopLoweredK7
import Derived.Test.YtkhpdpenlnhbiaaGreatDoorTopLoweredLL
namespace Go.Proofs.YtkhpdpenlnhbiaaGreatDoor
open Go.RowKit Sx LexS ParS _root_.Go.Proofs.Tryz
set_option linter.unusedVariables false
set_option linter.unusedSimpArgs false
def kvB (l:List Wd):List (Wd×Value):=l.map fun s=>(s,.bool true)
theorem kvB_app (l:List Wd) (s:Wd):kvB (l++[s])=kvB l++[(s,.bool true)]:=by simp [kvB]
theorem kvB_no {l:List Wd} {s:Wd} (h:s∉l):getF (kvB l) s=none:=by
 induction l with
 | nil=>rfl
 | cons x r ih=>
  show getF ((x,_)::kvB r) s=_
  rw [getF,if_neg (fun e=>h (by rw [e];exact .head _)),ih (fun hm=>h (.tail _ hm))]
theorem ckDs_len {mx:Nat}:∀ {l:List Dc} {seen:List Wd} {i:Nat},ckDs mx seen l i=true→i≤mx→i+l.length≤mx
 | [],seen,i,_,h=>h
 | d::r,seen,i,h,h0=>by
  rw [ckDs] at h
  simp only [Bool.and_eq_true,decide_eq_true_eq] at h
  have:=ckDs_len h.2 (by omega)
  rw [List.length_cons];omega
theorem ckTs_len {sh lk:List Wd}:∀ {l:List Th} {seen:List Wd} {i:Nat},ckTs sh lk seen l i=true→i≤8→i+l.length≤8
 | [],seen,i,_,h=>h
 | d::r,seen,i,h,h0=>by
  rw [ckTs] at h
  simp only [Bool.and_eq_true,decide_eq_true_eq] at h
  have:=ckTs_len h.2 (by omega)
  rw [List.length_cons];omega
theorem ckTs_nd {sh lk:List Wd}:∀ {l:List Th} {seen:List Wd} {i:Nat},ckTs sh lk seen l i=true→seen.Nodup→(seen++l.map (·.nm)).Nodup
 | [],seen,i,_,h=>by simpa using h
 | x::r,seen,i,h,h0=>by
  rw [ckTs] at h
  simp only [Bool.and_eq_true,Bool.not_eq_true',decide_eq_false_iff_not] at h
  have:=ckTs_nd h.2 (List.nodup_append.2 ⟨h0,by simp,by
    intro a ha b hb e
    rw [List.mem_singleton.1 hb] at e
    exact h.1.1.1 (e▸ha)⟩)
  rw [List.append_assoc] at this
  exact this
structure UnOk (p:Pg) (D:List Dg):Prop where
 ls:p.shared.length≤64
 ll:p.locks.length≤16
 lt:D.length≤8
 nd:(nmL p.shared++nmL p.locks++D.map (·.nm)).Nodup
 ns:∀ d∈p.shared,isName d.nm=true
 nl:∀ d∈p.locks,isName d.nm=true∧d.wd=0
 nt:∀ d∈D,isName d.nm=true
 lc:∀ d∈D,d.lc≤64
 ok:∀ d∈D,∃ lab,GrOk p.shared.length p.locks.length d.lc d.N d.s lab
theorem GrRow.at {w:World} {T:Nat→Prop} {og:Option Addr} {D:List Dg} (h:GrRow w T og D) (h0:0<D.length):∃ b off,og=some ⟨b,off,none⟩∧∀ (j:Nat) x,D[j]?=some x→∀ (i:Nat) v,(gcell x)[i]?=some v→w.cell? ⟨b,off+j*4+i,none⟩=some v:=by
 rcases h.1 with h|⟨b,off,h1,h2,h3,h4⟩
 ·omega
 ·refine⟨b,off,h1,fun j x hx i v hi=>?_⟩
  obtain⟨hj,-⟩:=List.getElem?_eq_some_iff.1 hx
  have:=(h4 j hj).2 i v
  dsimp only at this
  rw [List.getD_eq_getElem?_getD,hx] at this
  exact this hi
theorem dg_take {D:List Dg} {j:Nat} {x:Dg} (hx:D[j]?=some x):(D.map (·.nm)).take (j+1)=(D.map (·.nm)).take j++[x.nm]:=by
 have:(D.map (·.nm))[j]?=some x.nm:=by rw [List.getElem?_map,hx];rfl
 rw [List.take_add_one,this];rfl
theorem nd_not {a b:List Wd} {j:Nat} {s:Wd} (h:(a++b).Nodup) (e:b.take (j+1)=b.take j++[s]):s∉a++b.take j:=by
 have h1:(a++b.take (j+1)).Nodup:=h.sublist ((List.Sublist.refl _).append (List.take_sublist _ _))
 rw [e,← List.append_assoc] at h1
 exact fun hm=>(List.nodup_append.1 h1).2.2 _ hm _ (.head _) rfl
theorem oa_ev {kn:Kn} {x:Operand} {oa ob:Option Addr} {n c:Nat} (h:oa=ob) (e:evO kn x=some (.slice oa n c)):evO kn x=some (.slice ob n c):=h▸e
theorem nadd_any (s:Wd) (l:List Wd) (hs:isName s=true) (hn:s∉l) (mb cb E:Nat) (fz:Nat×Nat) (w:World) (hm:w.heap[mb]?=some (mapF (kvB l))) (hc:w.heap[cb]?=some (.cells [.map (some mb)].toArray E fz)) (hne:mb≠cb) :
    Ret Tryz.prog 57 [str s,.pointer (some ⟨cb,0,none⟩)] w fun v w'=>v=.bool true∧w'.heap[mb]?=some (mapF (kvB (l++[s])))∧Chg [mb] w w':=by
 refine ret_of [_,_] func57 rfl ntmps57 rfl ?_
 have st:=St.init w []
 obtain⟨w0,rfl⟩:∃ w0,w0=w:=⟨_,rfl⟩
 replace st:=St.of2 [mb] hm hc hne
 have hno:=kvB_no hn
 refine sr ?_
 refine ya ?_
 refine et (vk2 0 1 (sr ?_))
 refine ym ?_
 refine vc_e (e_call [_] rfl rfl call27 rfl (name_any _ _) ?_)
 rintro _ _ ⟨rfl,rfl⟩
 rw [hs]
 refine vmb ?_ ?_
 ·intro hg7
  try simp only [dn] at hg7
  refine yl st 1 isAgg146 ?_
  refine ym ?_
  refine vc_e (e_lkF1 (z:=.bool false) st 0 rfl rfl rfl rfl rfl underlying146 underlying9 zeroValue4 ?_)
  rw [hno]
  dsimp only [Option.getD]
  refine vy (y_not rfl) ?_
  refine ypt ?_
  refine ya ?_
  refine et (vk3 0 1 4 (sr ?_))
  refine yl st 1 isAgg146 ?_
  refine ym ?_
  refine vc_e (e_muF st 0 rfl rfl rfl rfl rfl (.inl (.head _)) underlying146 underlying9 hno ?_)
  intro w st;dsimp only [setNth] at st
  refine et (vk1 4 (sr ?_))
  refine ym ?_
  refine ya ?_
  refine et (vk1 3 (vc_ret ?_))
  refine vr1 st results57 ?_
  exact⟨rfl,by rw [kvB_app];exact st.res (i:=0) rfl,st.chg⟩
 intro hg7
 exfalso;revert hg7;decide
set_option maxHeartbeats 1000000 in
theorem named_u (T:Nat→Prop) (p:Pg) (D:List Dg) (hU:UnOk p D) (o1 o2 og:Option Addr) (c1 c2 cg:Nat) (w:World) (h1:DcRow w T o1 p.shared) (h2:DcRow w T o2 p.locks) (h3:GrRow w T og D) :
    Ret Tryz.prog 22 [.agg [.slice o1 p.shared.length c1,.slice o2 p.locks.length c2,.slice og D.length cg].toArray] w fun v w'=>v=.bool true∧Chg [] w w':=by
 refine ret_of [_] func22 rfl ntmps22 rfl ?_
 have st:=St.init w []
 obtain⟨w0,rfl⟩:∃ w0,w0=w:=⟨_,rfl⟩
 have hls:=hU.ls
 have hll:=hU.ll
 have hlt:=hU.lt
 refine sr ?_
 refine vc_e (e_bx (l:=[_,_,_]) st rfl rfl rfl rfl ?_)
 intro b1 w hb1 st
 refine ya ?_
 refine et (vk1 1 (vc_seq (sr ?_)))
 refine vy (y_fa0 rfl underlying36 rfl rfl sizeOf23 rfl) ?_
 refine yl st 0 isAgg23 ?_
 refine vy (y_lensl rfl underlying23) ?_
 refine vy (y_gtr rfl rfl) ?_
 refine vmb ?_ ?_
 ·intro hg15
  exfalso;simp only [decide_eq_true_eq] at hg15;omega
 intro hg15
 try simp only [dn] at hg15
 refine yfz 1 underlying36 sizeOf23 ?_
 refine yl st 0 isAgg23 ?_
 refine vy (y_lensl rfl underlying23) ?_
 refine vy (y_gtr rfl rfl) ?_
 refine ypf ?_
 refine vmb ?_ ?_
 ·intro hg21
  exfalso;simp only [decide_eq_true_eq] at hg21;omega
 intro hg21
 try simp only [dn] at hg21
 refine yfz 2 underlying36 sizeOf34 ?_
 refine yl st 0 isAgg34 ?_
 refine vy (y_lensl rfl underlying34) ?_
 refine vy (y_gtr rfl rfl) ?_
 refine ypf ?_
 refine et (vk2 1 26 ?_)
 refine vif ?_ ?_
 ·intro hc26
  exfalso;simp only [decide_eq_true_eq] at hc26;omega
 intro hc26
 try simp only [dn] at hc26
 refine kt (vk1 1 (sr ?_))
 refine vc_e (e_mkF st rfl rfl ?_)
 intro b27 w hb27 st
 refine vc_e (e_al (l:=[_]) st rfl rfl zeroValue146 rfl ?_)
 intro b3 w hb3 st
 refine vc_e (est st 0 sizeOf146 ?_)
 intro w st;dsimp only [setNth,wr] at st
 refine et (vk2 1 3 (sr ?_))
 refine vy (y_mf [] [_] rfl rfl) ?_
 refine ya ?_
 refine et (vk2 1 4 (vc_seq (sr ?_)))
 refine vy (y_fa0 rfl underlying36 rfl rfl sizeOf23 rfl) ?_
 refine yl st 2 isAgg23 ?_
 refine vy (y_lensl rfl underlying23) ?_
 refine ym ?_
 refine et (vk5 1 4 30 31 32 (vc_block ?_))
 refine vc_loop (w0:=w0) (M:=[]) (fun (j:Nat)=>[(1,.pointer (some ⟨b1,0,none⟩)),(4,.func (.func 57) #[] [.pointer (some ⟨b3,0,none⟩)].toArray),(30,.slice o1 p.shared.length c1),(31,.int .i64 (p.shared.length:Int)),(32,.int .i64 (j:Int))]) (fun j=>[.blk b27 (mapF (kvB ((nmL p.shared).take j))),.blk b3 (.cells [.map (some b27)].toArray 146 (0,0)),.blk b1 (.cells [.slice o1 p.shared.length c1,.slice o2 p.locks.length c2,.slice og D.length cg].toArray 36 (0,0))]) (fun j w'=>j≤p.shared.length) (fun j=>p.shared.length - j) 0 ⟨rfl,rfl,rfl,rfl,rfl,trivial⟩ (by simpa [kvB] using st.pick [1,0,2] rfl (by decide)) (by simp) ?_
 clear st
 intro j w hj st
 refine sr ?_
 refine vy (y_lss rfl rfl) ?_
 refine et (vk6 1 4 30 31 32 33 (vc_seq ?_))
 refine vif ?_ ?_
 ·intro hc33
  try simp only [dn] at hc33
  have stK:=st
  have hj2:j<p.shared.length:=by omega
  obtain⟨x,hx⟩:∃ x,p.shared[j]?=some x:=⟨_,List.getElem?_eq_getElem hj2⟩
  have hxm:=List.mem_of_getElem? hx
  obtain⟨gb,go,rfl,hgS,hgl,hg⟩:=DcRow.at h1 (by omega)
  have hc:=hg j x hx
  have htk:=nm_take hx
  have hnot:x.nm∉[]++(nmL p.shared).take j:=nd_not (by rw [List.nil_append];exact(List.nodup_append.1 (List.nodup_append.1 hU.nd).1).1) htk
  rw [List.nil_append] at hnot
  have st:=stK
  refine kt (vk5 1 4 30 31 32 (vc_seq (vc_block (sr ?_))))
  refine vy (y_ia (k:=j) rfl rfl underlying23 sizeOf134 rfl (by omega)) ?_
  refine vy (y_ldca (dcL x) rfl isAgg134 sizeOf134 rfl (fun i v hi=>st.chg.cell (hc i v hi) (by simp))) ?_
  refine vc_e (e_al (l:=[_,_,_]) st rfl rfl zeroValue134 rfl ?_)
  intro b6 w hb6 st
  refine vc_e (ests st 0 [_,_,_] sizeOf134 ?_)
  intro w st;dsimp only [setNth,wr] at st
  refine et (vk6 1 4 6 30 31 32 (sr ?_))
  refine ym ?_
  refine vy (y_fa0 rfl underlying134 rfl rfl sizeOf9 rfl) ?_
  refine yl st 0 isAgg9 ?_
  refine vc_e (e_callv [_] rfl rfl rfl call57 rfl (nadd_any x.nm ((nmL p.shared).take j) (hU.ns x hxm) hnot b27 b3 _ _ _ (st.res (i:=1) rfl) (st.res (i:=2) rfl) (st.bne 1 2 (by decide) rfl rfl)) ?_)
  rintro _ w ⟨rfl,hmp,cw⟩
  replace st:=st.swap (i:=1) (r':=.blk b27 (mapF (kvB ((nmL p.shared).take j++[x.nm])))) rfl cw (fun k hk=>hk) (by simpa using hb27) (fun k hk=>.inl hk) hmp
  dsimp only [setNth] at st
  refine vy (y_not rfl) ?_
  refine et (vk6 1 4 30 31 32 40 ?_)
  refine vif ?_ ?_
  ·intro hc40
   exfalso;revert hc40;decide
  intro hc40
  try simp only [dn] at hc40
  refine vc_code_skip (vq_block (vq_then (vk5 1 4 30 31 32 (vc_region ?_))))
  refine vy (y_add rfl rfl (by omega:_=((j+1:Nat):Int)) (by omega) (by omega)) ?_
  refine ym ?_
  refine vc_end ?_
  refine vq_again (j+1)  ⟨rfl,rfl,rfl,rfl,rfl,trivial⟩ (by rw [htk];exact st.drop (.cons _ (List.Sublist.refl _))) ?_ ?_
  ·omega
  omega
 intro hc33
 try simp only [dn] at hc33
 have hj2:j=p.shared.length:=by omega
 subst hj2
 rw [List.take_of_length_le (by simp)] at st
 refine vc_exit (vq_then_exit (vq_then_exit (vq_block_exit (vq_then (vk2 1 4 (vc_seq (sr ?_)))))))
 refine yfz 1 underlying36 sizeOf23 ?_
 refine yl st 2 isAgg23 ?_
 refine vy (y_lensl rfl underlying23) ?_
 refine ym ?_
 refine et (vk5 1 4 43 44 45 (vc_block ?_))
 refine vc_loop (w0:=w0) (M:=[]) (fun (j:Nat)=>[(1,.pointer (some ⟨b1,0,none⟩)),(4,.func (.func 57) #[] [.pointer (some ⟨b3,0,none⟩)].toArray),(43,.slice o2 p.locks.length c2),(44,.int .i64 (p.locks.length:Int)),(45,.int .i64 (j:Int))]) (fun j=>[.blk b27 (mapF (kvB (nmL p.shared++(nmL p.locks).take j))),.blk b3 (.cells [.map (some b27)].toArray 146 (0,0)),.blk b1 (.cells [.slice o1 p.shared.length c1,.slice o2 p.locks.length c2,.slice og D.length cg].toArray 36 (0,0))]) (fun j w'=>j≤p.locks.length) (fun j=>p.locks.length - j) 0 ⟨rfl,rfl,rfl,rfl,rfl,trivial⟩ (by simpa using st) (by simp) ?_
 clear st
 intro j w hj st
 refine sr ?_
 refine vy (y_lss rfl rfl) ?_
 refine et (vk6 1 4 43 44 45 46 (vc_seq ?_))
 refine vif ?_ ?_
 ·intro hc46
  try simp only [dn] at hc46
  have stK:=st
  have hj2:j<p.locks.length:=by omega
  obtain⟨x,hx⟩:∃ x,p.locks[j]?=some x:=⟨_,List.getElem?_eq_getElem hj2⟩
  have hxm:=List.mem_of_getElem? hx
  obtain⟨gb,go,rfl,hgS,hgl,hg⟩:=DcRow.at h2 (by omega)
  have hc:=hg j x hx
  have htk:=nm_take hx
  have hnot:x.nm∉nmL p.shared++(nmL p.locks).take j:=nd_not (by exact(List.nodup_append.1 hU.nd).1) htk
  have st:=stK
  refine kt (vk5 1 4 43 44 45 (vc_seq (vc_block (sr ?_))))
  refine vy (y_ia (k:=j) rfl rfl underlying23 sizeOf134 rfl (by omega)) ?_
  refine vy (y_ldca (dcL x) rfl isAgg134 sizeOf134 rfl (fun i v hi=>st.chg.cell (hc i v hi) (by simp))) ?_
  refine vc_e (e_al (l:=[_,_,_]) st rfl rfl zeroValue134 rfl ?_)
  intro b8 w hb8 st
  refine vc_e (ests st 0 [_,_,_] sizeOf134 ?_)
  intro w st;dsimp only [setNth,wr] at st
  refine et (vk6 1 4 8 43 44 45 (sr ?_))
  refine ym ?_
  refine vy (y_fa0 rfl underlying134 rfl rfl sizeOf9 rfl) ?_
  refine yl st 0 isAgg9 ?_
  refine vc_e (e_callv [_] rfl rfl rfl call57 rfl (nadd_any x.nm (nmL p.shared++(nmL p.locks).take j) (hU.nl x hxm).1 hnot b27 b3 _ _ _ (st.res (i:=1) rfl) (st.res (i:=2) rfl) (st.bne 1 2 (by decide) rfl rfl)) ?_)
  rintro _ w ⟨rfl,hmp,cw⟩
  replace st:=st.swap (i:=1) (r':=.blk b27 (mapF (kvB (nmL p.shared++(nmL p.locks).take j++[x.nm])))) rfl cw (fun k hk=>hk) (by simpa using hb27) (fun k hk=>.inl hk) hmp
  dsimp only [setNth] at st
  refine vy (y_not rfl) ?_
  refine vmb ?_ ?_
  ·intro hg54
   exfalso;revert hg54;decide
  intro hg54
  try simp only [dn] at hg54
  refine yfz 1 underlying134 sizeOf2 ?_
  refine yl st 0 isAgg2 ?_
  refine vy (y_nei rfl rfl) ?_
  refine ypf ?_
  refine et (vk6 1 4 43 44 45 58 ?_)
  refine vif ?_ ?_
  ·intro hc58
   exact absurd hc58 (by simp [(hU.nl x hxm).2])
  intro hc58
  try simp only [dn] at hc58
  refine vc_code_skip (vq_block (vq_then (vk5 1 4 43 44 45 (vc_region ?_))))
  refine vy (y_add rfl rfl (by omega:_=((j+1:Nat):Int)) (by omega) (by omega)) ?_
  refine ym ?_
  refine vc_end ?_
  refine vq_again (j+1)  ⟨rfl,rfl,rfl,rfl,rfl,trivial⟩ (by rw [htk,← List.append_assoc];exact st.drop (.cons _ (List.Sublist.refl _))) ?_ ?_
  ·omega
  omega
 intro hc46
 try simp only [dn] at hc46
 have hj2:j=p.locks.length:=by omega
 subst hj2
 rw [List.take_of_length_le (by simp)] at st
 refine vc_exit (vq_then_exit (vq_then_exit (vq_block_exit (vq_then (vk2 1 4 (vc_seq (sr ?_)))))))
 refine yfz 2 underlying36 sizeOf34 ?_
 refine yl st 2 isAgg34 ?_
 refine vy (y_lensl rfl underlying34) ?_
 refine ym ?_
 refine et (vk4 4 61 62 63 (vc_block ?_))
 refine vc_loop (w0:=w0) (M:=[]) (fun (j:Nat)=>[(4,.func (.func 57) #[] [.pointer (some ⟨b3,0,none⟩)].toArray),(61,.slice og D.length cg),(62,.int .i64 (D.length:Int)),(63,.int .i64 (j:Int))]) (fun j=>[.blk b27 (mapF (kvB (nmL p.shared++nmL p.locks++(D.map (·.nm)).take j))),.blk b3 (.cells [.map (some b27)].toArray 146 (0,0)),.blk b1 (.cells [.slice o1 p.shared.length c1,.slice o2 p.locks.length c2,.slice og D.length cg].toArray 36 (0,0))]) (fun j w'=>j≤D.length) (fun j=>D.length - j) 0 ⟨rfl,rfl,rfl,rfl,trivial⟩ (by simpa using st) (by simp) ?_
 clear st
 intro j w hj st
 refine sr ?_
 refine vy (y_lss rfl rfl) ?_
 refine et (vk5 4 61 62 63 64 (vc_seq ?_))
 refine vif ?_ ?_
 ·intro hc64
  try simp only [dn] at hc64
  have stK:=st
  have hj2:j<D.length:=by omega
  obtain⟨x,hx⟩:∃ x,D[j]?=some x:=⟨_,List.getElem?_eq_getElem hj2⟩
  have hxm:=List.mem_of_getElem? hx
  obtain⟨gb,go,rfl,hc⟩:=GrRow.at h3 (by omega)
  have htk:=dg_take hx
  have hnot:x.nm∉nmL p.shared++nmL p.locks++(D.map (·.nm)).take j:=nd_not (by exact hU.nd) htk
  have st:=stK
  refine kt (vk4 4 61 62 63 (vc_seq (vc_block (sr ?_))))
  refine vy (y_ia (k:=j) rfl rfl underlying34 sizeOf43 rfl (by omega)) ?_
  refine vy (y_ldca (gcell x) rfl isAgg43 sizeOf43 rfl (fun i v hi=>st.chg.cell (hc j x hx i v hi) (by simp))) ?_
  refine vc_e (e_al (l:=[_,_,_,_]) st rfl rfl zeroValue43 rfl ?_)
  intro b10 w hb10 st
  refine vc_e (ests st 0 [_,_,_,_] sizeOf43 ?_)
  intro w st;dsimp only [setNth,wr] at st
  refine et (vk5 4 10 61 62 63 (sr ?_))
  refine ym ?_
  refine vy (y_fa0 rfl underlying43 rfl rfl sizeOf9 rfl) ?_
  refine yl st 0 isAgg9 ?_
  refine vc_e (e_callv [_] rfl rfl rfl call57 rfl (nadd_any x.nm (nmL p.shared++nmL p.locks++(D.map (·.nm)).take j) (hU.nt x hxm) hnot b27 b3 _ _ _ (st.res (i:=1) rfl) (st.res (i:=2) rfl) (st.bne 1 2 (by decide) rfl rfl)) ?_)
  rintro _ w ⟨rfl,hmp,cw⟩
  replace st:=st.swap (i:=1) (r':=.blk b27 (mapF (kvB (nmL p.shared++nmL p.locks++(D.map (·.nm)).take j++[x.nm])))) rfl cw (fun k hk=>hk) (by simpa using hb27) (fun k hk=>.inl hk) hmp
  dsimp only [setNth] at st
  refine vy (y_not rfl) ?_
  refine et (vk5 4 61 62 63 71 ?_)
  refine vif ?_ ?_
  ·intro hc71
   exfalso;revert hc71;decide
  intro hc71
  try simp only [dn] at hc71
  refine vc_code_skip (vq_block (vq_then (vk4 4 61 62 63 (vc_region ?_))))
  refine vy (y_add rfl rfl (by omega:_=((j+1:Nat):Int)) (by omega) (by omega)) ?_
  refine ym ?_
  refine vc_end ?_
  refine vq_again (j+1)  ⟨rfl,rfl,rfl,rfl,trivial⟩ (by rw [htk,← List.append_assoc];exact st.drop (.cons _ (List.Sublist.refl _))) ?_ ?_
  ·omega
  omega
 intro hc64
 try simp only [dn] at hc64
 have hj2:j=D.length:=by omega
 subst hj2
 rw [List.take_of_length_le (by simp)] at st
 refine vc_exit (vq_then_exit (vq_then_exit (vq_block_exit (vq_then (vc_keep [] trivial (sr ?_))))))
 refine ya ?_
 refine et (vk1 2 (vc_ret ?_))
 refine vr1 st results22 ?_
 exact⟨rfl,st.chg⟩
set_option maxHeartbeats 2000000 in
theorem gcheck_any (T:Nat→Prop) (p:Pg) (D:List Dg) (hU:UnOk p D) (uv:Value) (w:World) (hu:UnV w T p D uv) :
    Ret Tryz.prog 8 [uv] w fun v w'=>v=.tuple #[.int .i64 0,.int .i64 0,.int .i64 0]∧Chg [] w w':=by
 obtain⟨o1,c1,o2,c2,og,cg,rfl,h1,h2,h3⟩:=hu
 refine ret_of [_] func8 rfl ntmps8 rfl ?_
 have st:=St.init w []
 obtain⟨w0,rfl⟩:∃ w0,w0=w:=⟨_,rfl⟩
 have hlt:=hU.lt
 refine sr ?_
 refine vc_e (e_bx (l:=[_,_,_]) st rfl rfl rfl rfl ?_)
 intro b1 w hb1 st
 iterate 3 refine ya ?_
 refine et (vk1 1 (vc_seq (sr ?_)))
 refine yla st 0 [_,_,_] isAgg36 sizeOf36 ?_
 refine vc_e (e_call [_] rfl rfl call22 rfl (named_u T p D hU o1 o2 og c1 c2 cg _ (h1.kept st.sm) (h2.kept st.sm) (h3.kept st.sm)) ?_)
 rintro _ w ⟨rfl,cw⟩
 replace st:=st.call0 cw
 refine vy (y_not rfl) ?_
 refine et (vk2 1 13 ?_)
 refine vif ?_ ?_
 ·intro hc13
  exfalso;revert hc13;decide
 intro hc13
 try simp only [dn] at hc13
 refine kt (vk1 1 (vc_seq (sr ?_)))
 refine yfz 2 underlying36 sizeOf34 ?_
 refine yl st 0 isAgg34 ?_
 refine vy (y_lensl rfl underlying34) ?_
 refine ym ?_
 refine et (vk4 1 15 16 17 (vc_block ?_))
 refine vc_loop (w0:=w0) (M:=[]) (fun (j:Nat)=>[(1,.pointer (some ⟨b1,0,none⟩)),(15,.slice og D.length cg),(16,.int .i64 (D.length:Int)),(17,.int .i64 (j:Int))]) (fun j=>[.blk b1 (.cells [.slice o1 p.shared.length c1,.slice o2 p.locks.length c2,.slice og D.length cg].toArray 36 (0,0))]) (fun j w'=>j≤D.length) (fun j=>D.length - j) 0 ⟨rfl,rfl,rfl,rfl,trivial⟩ (st.drop (by repeat (first|exact List.Sublist.refl _|exact List.nil_sublist _|apply List.Sublist.cons_cons|apply List.Sublist.cons))) (by simp) ?_
 clear st
 intro j w hj st
 refine sr ?_
 refine vy (y_lss rfl rfl) ?_
 refine et (vk5 1 15 16 17 18 (vc_seq ?_))
 refine vif ?_ ?_
 ·intro hc18
  try simp only [dn] at hc18
  have stK:=st
  have hj2:j<D.length:=by omega
  obtain⟨d,hd⟩:∃ d,D[j]?=some d:=⟨_,List.getElem?_eq_getElem hj2⟩
  have hdm:=List.mem_of_getElem? hd
  have h3b:=h3
  obtain⟨gb,go,rfl,hc⟩:=GrRow.at h3 (by omega)
  obtain⟨lab,hG⟩:=hU.ok d hdm
  have hlc:=hU.lc d hdm
  have hpos:=hG.pos
  have hle:=hG.le
  have hlo:=hG.lo
  have hsl:=hG.sl
  have hlen:=hG.len
  have hnr:=h3b.2 d hdm
  obtain⟨nb,off,hon,-,-,hcc⟩:=hnr.at hpos
  have st:=stK
  refine kt (vk4 1 15 16 17 (vc_seq (vc_block (sr ?_))))
  refine ym ?_
  refine vy (y_ia (k:=j) rfl rfl underlying34 sizeOf43 rfl (by omega)) ?_
  refine vy (y_ldca (gcell d) rfl isAgg43 sizeOf43 rfl (fun i v hi=>st.chg.cell (hc j d hd i v hi) (by simp))) ?_
  refine vc_e (e_al (l:=[_,_,_,_]) st rfl rfl zeroValue43 rfl ?_)
  intro b6 w hb6 st
  refine ya ?_
  refine vc_e (ests st 0 [_,_,_,_] sizeOf43 ?_)
  intro w st;dsimp only [setNth,wr] at st
  refine et (vk6 1 5 6 15 16 17 (vc_seq (sr ?_)))
  refine yfz 1 underlying43 sizeOf3 ?_
  refine yl st 0 isAgg3 ?_
  refine vy (y_lss rfl rfl) ?_
  refine vmb ?_ ?_
  ·intro hg25
   exfalso;simp only [decide_eq_true_eq] at hg25;omega
  intro hg25
  try simp only [dn] at hg25
  refine yfz 1 underlying43 sizeOf3 ?_
  refine yl st 0 isAgg3 ?_
  refine vy (y_gtr rfl rfl) ?_
  refine ypf ?_
  refine vmb ?_ ?_
  ·intro hg30
   exfalso;simp only [decide_eq_true_eq] at hg30;omega
  intro hg30
  try simp only [dn] at hg30
  refine yfz 2 underlying43 sizeOf3 ?_
  refine yl st 0 isAgg3 ?_
  refine yfz 1 underlying43 sizeOf3 ?_
  refine yl st 0 isAgg3 ?_
  refine vy (y_lss rfl rfl) ?_
  refine ypf ?_
  refine vmb ?_ ?_
  ·intro hg37
   exfalso;simp only [decide_eq_true_eq] at hg37;omega
  intro hg37
  try simp only [dn] at hg37
  refine yfz 2 underlying43 sizeOf3 ?_
  refine yl st 0 isAgg3 ?_
  refine vy (y_gtr rfl rfl) ?_
  refine ypf ?_
  refine vmb ?_ ?_
  ·intro hg42
   exfalso;simp only [decide_eq_true_eq] at hg42;omega
  intro hg42
  try simp only [dn] at hg42
  refine yfz 3 underlying43 sizeOf41 ?_
  refine yl st 0 isAgg41 ?_
  refine vy (y_lensl rfl underlying41) ?_
  refine vy (y_lss rfl rfl) ?_
  refine ypf ?_
  refine vmb ?_ ?_
  ·intro hg48
   exfalso;simp only [decide_eq_true_eq] at hg48;omega
  intro hg48
  try simp only [dn] at hg48
  refine yfz 3 underlying43 sizeOf41 ?_
  refine yl st 0 isAgg41 ?_
  refine vy (y_lensl rfl underlying41) ?_
  refine vy (y_gtr rfl rfl) ?_
  refine ypf ?_
  refine et (vk7 1 5 6 15 16 17 53 ?_)
  refine vif ?_ ?_
  ·intro hc53
   exfalso;simp only [decide_eq_true_eq] at hc53;omega
  intro hc53
  try simp only [dn] at hc53
  refine kt (vk6 1 5 6 15 16 17 (vc_seq (sr ?_)))
  refine yfz 3 underlying43 sizeOf41 ?_
  refine yl st 0 isAgg41 ?_
  refine vy (y_lensl rfl underlying41) ?_
  refine ym ?_
  refine et (vk9 1 5 6 15 16 17 56 57 58 (vc_block ?_))
  refine vc_loop (w0:=w0) (M:=[]) (fun (k:Nat)=>[(1,.pointer (some ⟨b1,0,none⟩)),(15,.slice (some ⟨gb,go,none⟩) D.length cg),(16,.int .i64 (D.length:Int)),(17,.int .i64 (j:Int)),(5,.int .i64 (j:Int)),(6,.pointer (some ⟨b6,0,none⟩)),(56,.slice d.on d.N.length d.zn),(57,.int .i64 (d.N.length:Int)),(58,.int .i64 (k:Int))]) (fun k=>[.blk b6 (.cells (gcell d).toArray 43 (0,0)),.blk b1 (.cells [.slice o1 p.shared.length c1,.slice o2 p.locks.length c2,.slice (some ⟨gb,go,none⟩) D.length cg].toArray 36 (0,0))]) (fun k w'=>k≤d.N.length) (fun k=>d.N.length - k) 0 ⟨rfl,rfl,rfl,rfl,rfl,rfl,rfl,rfl,rfl,trivial⟩ (st.drop (by repeat (first|exact List.Sublist.refl _|exact List.nil_sublist _|apply List.Sublist.cons_cons|apply List.Sublist.cons))) (by simp) ?_
  clear st
  intro k w hk st
  refine sr ?_
  refine vy (y_lss rfl rfl) ?_
  refine et (vk10 1 5 6 15 16 17 56 57 58 59 (vc_seq ?_))
  refine vif ?_ ?_
  ·intro hc59
   try simp only [dn] at hc59
   obtain⟨x,hx⟩:∃ x,d.N[k]?=some x:=⟨_,List.getElem?_eq_getElem (by omega)⟩
   obtain⟨l,hl⟩:∃ l,lab[k]?=some l:=⟨_,List.getElem?_eq_getElem (by omega)⟩
   obtain⟨-,hn2,hn3,hn4,hn5⟩:=hG.node k x l hx hl
   have hin:∀ {i:Nat} {m:List Int},lab[i]?=some m→i<d.N.length:=fun h=>by rw [← hlen];exact(List.getElem?_eq_some_iff.1 h).1
   refine kt (vk9 1 5 6 15 16 17 56 57 58 (vc_seq (vc_block (sr ?_))))
   refine ym ?_
   refine vy (y_ia (k:=k) (oa_ev hon rfl) rfl underlying41 sizeOf83 rfl (by omega)) ?_
   refine vy (y_ldca (gnC x k) rfl isAgg83 sizeOf83 rfl (fun i v hi=>st.chg.cell (hcc k x hx i v hi) (by simp))) ?_
   refine vc_e (e_al (l:=[_,_,_,_,_,_,_,_,_,_,_,_,_]) st rfl rfl zeroValue83 rfl ?_)
   intro b8 w hb8 st
   refine ya ?_
   refine vc_e (ests st 0 [_,_,_,_,_,_,_,_,_,_,_,_,_] sizeOf83 ?_)
   intro w st;dsimp only [setNth,wr] at st
   refine et (vc_keep [(1,_),(5,_),(6,_),(7,_),(8,_),(15,_),(16,_),(17,_),(56,_),(57,_),(58,_)] ⟨rfl,rfl,rfl,rfl,rfl,rfl,rfl,rfl,rfl,rfl,rfl,trivial⟩ (sr ?_))
   refine yla st 2 [_,_,_] isAgg36 sizeOf36 ?_
   refine yla st 1 [_,_,_,_] isAgg43 sizeOf43 ?_
   refine yla st 0 [_,_,_,_,_,_,_,_,_,_,_,_,_] isAgg83 sizeOf83 ?_
   refine vc_e (e_call [_,_,_] rfl rfl call23 rfl (right_any x p.shared.length p.locks.length d.s k d.N.length d.lc d.nm (hG.ok x (List.mem_of_getElem? hx)) (by omega) (fun h=>hin ((hn4 h).resolve_left (by simp))) hn3 (fun h=>hin ((hn5 h).resolve_left (by simp))) hn2 o1 o2 d.on c1 c2 d.zn _ _) ?_)
   rintro _ w ⟨rfl,cw⟩
   replace st:=st.call0 cw
   refine vy (y_not rfl) ?_
   refine et (vc_keep [(1,_),(5,_),(6,_),(7,_),(15,_),(16,_),(17,_),(56,_),(57,_),(58,_),(67,_)] ⟨rfl,rfl,rfl,rfl,rfl,rfl,rfl,rfl,rfl,rfl,rfl,trivial⟩ ?_)
   refine vif ?_ ?_
   ·intro hc67
    exfalso;revert hc67;decide
   intro hc67
   try simp only [dn] at hc67
   refine vc_code_skip (vq_block (vq_then (vk9 1 5 6 15 16 17 56 57 58 (vc_region ?_))))
   refine vy (y_add rfl rfl (by omega:_=((k+1:Nat):Int)) (by omega) (by omega)) ?_
   refine ym ?_
   refine vc_end ?_
   refine vq_again (k+1)  ⟨rfl,rfl,rfl,rfl,rfl,rfl,rfl,rfl,rfl,trivial⟩ (st.drop (by repeat (first|exact List.Sublist.refl _|exact List.nil_sublist _|apply List.Sublist.cons_cons|apply List.Sublist.cons))) ?_ ?_
   ·omega
   omega
  intro hc59
  try simp only [dn] at hc59
  refine vc_exit (vq_then_exit (vq_then_exit (vq_block_exit (vq_then (vk6 1 5 6 15 16 17 (sr ?_))))))
  refine yla st 0 [_,_,_,_] isAgg43 sizeOf43 ?_
  refine vc_e (e_call [_] rfl rfl call24 rfl (held_any T p.shared.length p.locks.length d.lc d.s d.zn d.on d.nm d.N lab hG _ (RowC.kept hnr st.sm)) ?_)
  rintro _ w ⟨⟨lv,rfl⟩,cw⟩
  replace st:=st.call0 cw
  refine ym ?_
  iterate 2 refine vy (y_ext rfl rfl) ?_
  iterate 2 refine ya ?_
  refine et (vk6 1 5 10 15 16 17 (sr ?_))
  refine ym ?_
  refine vy (y_geq rfl rfl) ?_
  refine et (vk7 1 5 10 15 16 17 77 ?_)
  refine vif ?_ ?_
  ·intro hc77
   exfalso;revert hc77;decide
  intro hc77
  try simp only [dn] at hc77
  refine vc_code_skip (vq_block (vq_then (vk4 1 15 16 17 (vc_region ?_))))
  refine vy (y_add rfl rfl (by omega:_=((j+1:Nat):Int)) (by omega) (by omega)) ?_
  refine ym ?_
  refine vc_end ?_
  refine vq_again (j+1)  ⟨rfl,rfl,rfl,rfl,trivial⟩ (st.drop (by repeat (first|exact List.Sublist.refl _|exact List.nil_sublist _|apply List.Sublist.cons_cons|apply List.Sublist.cons))) ?_ ?_
  ·omega
  omega
 intro hc18
 try simp only [dn] at hc18
 refine vc_exit (vq_then_exit (vq_then_exit (vq_block_exit (vq_then (vc_keep [] trivial (sr ?_))))))
 iterate 3 refine ya ?_
 refine et (vk3 2 3 4 (vc_ret ?_))
 refine vq_ret3 st (.inl rfl) results8 (.tmp rfl) (.tmp rfl) (.tmp rfl) ?_
 refine⟨_,rfl,?_⟩
 exact⟨rfl,st.chg⟩
end Go.Proofs.YtkhpdpenlnhbiaaGreatDoor
