/- A part of the proof: contracts of functions and plain laws; each theorem says its own conditions. -/
import Derived.Test.YtkhpdpenlnhbiaaGreatDoorTopLoweredK7
import Derived.Test.YtkhpdpenlnhbiaaGreatDoorTopLoweredK40
import Derived.Test.YtkhpdpenlnhbiaaGreatDoorTopLoweredK19
import Derived.Test.YtkhpdpenlnhbiaaGreatDoorTopLoweredK6
namespace Go.Proofs.YtkhpdpenlnhbiaaGreatDoor
open Go.RowKit Sx LexS ParS _root_.Go.Proofs.Tryz
set_option linter.unusedVariables false
set_option linter.unusedSimpArgs false
theorem trEs_len {g:List UInt8→List UInt8} {h:Int→Int} (l:List Ex):(trEs g h l).length=l.length:=by rw [trEs_map,List.length_map]
theorem trSs_len {g:List UInt8→List UInt8} {h:Int→Int} (l:List Sm):(trSs g h l).length=l.length:=by rw [trSs_map,List.length_map]
theorem set_get {α:Type} {l:List α} {j:Nat} {x y:α} (h:l[j]?=some x):(l.set j y)[j]?=some y:=by
 rw [List.getElem?_set_self (List.getElem?_eq_some_iff.1 h).1]
theorem set_same {α:Type} {l:List α} {j:Nat} {x:α} (h:l[j]?=some x):l.set j x=l:=by
 apply List.ext_getElem?
 intro i
 rw [List.getElem?_set]
 by_cases hi:j=i
 ·subst hi
  rw [if_pos rfl,if_pos (List.getElem?_eq_some_iff.1 h).1,h]
 ·rw [if_neg hi]
theorem _root_.Sx.St.tree1 {w:World} {S:List Nat} {φ:World→Prop} (h:φ w) (hl:∀ b∈S,b<w.heap.size) (hk:Sx.Loc S φ):St w S [.tree S φ] w:=
 ⟨Chg.refl _ _,List.pairwise_singleton _ _,fun r hr=>by
   simp only [List.mem_singleton] at hr
   subst hr
   exact⟨h,hl,hk⟩⟩
theorem loc_dc {oa:Option Addr} {cap:Nat} {ds:List Dc} {S:List Nat}:Sx.Loc S fun w=>DcRQ w oa cap ds S:=loc_of fun a b h hk=>h.kept hk
theorem loc_ex {oa:Option Addr} {cap:Nat} {ds:List Ex} {S:List Nat}:Sx.Loc S fun w=>ExRQ w oa cap ds S:=loc_of fun a b h hk=>h.kept hk
theorem loc_sm {oa:Option Addr} {cap:Nat} {ds:List Sm} {S:List Nat}:Sx.Loc S fun w=>SmRQ w oa cap ds S:=loc_of fun a b h hk=>h.kept hk
theorem loc_th {oa:Option Addr} {cap:Nat} {ds:List Th} {S:List Nat}:Sx.Loc S fun w=>ThRQ w oa cap ds S:=loc_of fun a b h hk=>h.kept hk
abbrev idA:Int→Int:=fun a=>a
theorem rn_new {old new s:Wd} (h:s=old):rnF old new s=new:=by unfold rnF;rw [if_pos h]
theorem rn_old {old new s:Wd} (h:s≠old):rnF old new s=s:=by unfold rnF;rw [if_neg h]
theorem rnput_any (old new s:Wd) (S:List Nat) (φ ψ:World→Prop) (b k:Nat) (w:World) (hφ:φ w) (hl:∀ b∈S,b<w.heap.size) (hφl:Sx.Loc S φ) (hψl:Sx.Loc S ψ) (hb:b∈S) (hat:∀ w,φ w→w.cell? ⟨b,k,none⟩=some (str s)∧w.frozen? ⟨b,k,none⟩=false∧ψ (w.setCell ⟨b,k,none⟩ (str (rnF old new s)))) (hsame:s≠old→∀ w,φ w→ψ w) :
    Ret Tryz.prog 31 [.agg [str old,str new].toArray,.pointer (some ⟨b,k,none⟩)] w fun v w'=>ψ w'∧Chg S w w':=by
 refine ret_of [_,_] func31 rfl ntmps31 rfl ?_
 have st:=St.init w []
 obtain⟨w0,rfl⟩:∃ w0,w0=w:=⟨_,rfl⟩
 replace st:=St.tree1 hφ hl hφl
 refine sr ?_
 refine vc_e (e_bx (l:=[_,_]) st rfl rfl rfl rfl ?_)
 intro b2 w hb2 st
 refine et (vk2 1 2 (vc_seq ?_))
 refine vdr0 Tryz.mixed [Yt 0,Yt 1,Yt 2,Yt 3,Yt 4,Yt 5] st ?_
 clear st;intro w st hS
 refine pm hS ?_
 refine pnk hS ?_
 refine vp_take rfl rfl rfl hS (fun w st=>y_ldc rfl isAgg9 (hat _ (st.res (i:=1) rfl).1).1) ?_
 refine pf0 hS underlying98 sizeOf9 ?_
 refine pld hS 0 isAgg9 ?_
 refine vp_take rfl rfl rfl hS (fun w st=>y_eqs rfl rfl) ?_
 refine vp_end (vq_then (vk3 1 2 9 ?_))
 refine vif ?_ ?_
 ·intro hc9
  try simp only [dn] at hc9
  have hso:s=old:=hc9
  refine vc_region ?_
  refine ym ?_
  refine yfz 1 underlying98 sizeOf9 ?_
  refine yl st 0 isAgg9 ?_
  refine ynk ?_
  refine vc_e (e_stT st 1 (ψ:=ψ) rfl rfl rfl rfl sizeOf9 rfl hb (.inl hb) ⟨_,(hat _ (st.res (i:=1) rfl).1).1⟩ (hat _ (st.res (i:=1) rfl).1).2.1 (by have h:=(hat _ (st.res (i:=1) rfl).1).2.2;rw [rn_new hso] at h;exact h) hψl ?_)
  intro w st;dsimp only [setNth] at st
  refine vc_end ?_
  refine vq_ret0 (.inr rfl) results31 ?_
  refine⟨_,rfl,?_⟩
  exact⟨(st.res (i:=1) rfl).1,st.chg⟩
 intro hc9
 try simp only [dn] at hc9
 have hso:s≠old:=hc9
 refine vc_code_skip ?_
 refine vq_ret0 (.inr rfl) results31 ?_
 refine⟨_,rfl,?_⟩
 exact⟨hsame hso _ (st.res (i:=1) rfl).1,st.chg⟩
set_option maxHeartbeats 1000000 in
theorem rndecls_any (old new:Wd) (ds:List Dc) (hn:ds.length≤1099511627776) (oa:Option Addr) (cap:Nat) (S:List Nat) (w:World) (hQ:DcRQ w oa cap ds S) (hS:S.Nodup) :
    Ret Tryz.prog 30 [.agg [str old,str new].toArray,.slice oa ds.length cap] w fun v w'=>DcRQ w' oa cap (ds.map (trD (rnF old new) idA)) S∧Chg S w w':=by
 refine ret_of [_,_] func30 rfl ntmps30 rfl ?_
 have st:=St.init w []
 obtain⟨w0,rfl⟩:∃ w0,w0=w:=⟨_,rfl⟩
 replace st:=St.tree1 (φ:=fun w=>DcRQ w oa cap ds S) hQ hQ.lt loc_dc
 have hSM:∀ k∈S,k∈S∨w0.heap.size≤k:=fun k hk=>.inl hk
 refine sr ?_
 refine vc_e (e_bx (l:=[_,_]) st rfl rfl rfl rfl ?_)
 intro b2 w hb2 st
 refine et (vk2 1 2 (sr ?_))
 refine ym ?_
 refine vy (y_lensl rfl underlying23) ?_
 refine ym ?_
 refine et (vk4 1 2 6 7 (vc_block ?_))
 refine vc_loop (w0:=w0) (M:=S) (fun (j:Nat)=>[(1,.slice oa ds.length cap),(2,.pointer (some ⟨b2,0,none⟩)),(6,.int .i64 (ds.length:Int)),(7,.int .i64 (j:Int))]) (fun j=>[.tree S (fun w=>DcRQ w oa cap (mixL (trD (rnF old new) idA) ds j) S),.blk b2 (.cells [str old,str new].toArray 98 (0,0))]) (fun j _=>j≤ds.length) (fun j=>ds.length - j) 0 ⟨rfl,rfl,rfl,rfl,trivial⟩ (by simpa only [mixL_zero] using st.pick [1,0] rfl (by decide)) (by omega) ?_
 clear st
 rintro j w hj st
 refine sr ?_
 refine vy (y_lss rfl rfl) ?_
 refine et (vk5 1 2 6 7 8 (vc_seq ?_))
 refine vif ?_ ?_
 ·intro hc8
  try simp only [dn] at hc8
  obtain⟨x,hx⟩:∃ x,ds[j]?=some x:=⟨_,List.getElem?_eq_getElem (by omega)⟩
  have hmx:=mixL_get (f:=trD (rnF old new) idA) hx
  have hstep:((mixL (trD (rnF old new) idA) ds j).set j {x with nm:=(rnF old new) x.nm})=mixL (trD (rnF old new) idA) ds (j+1):=mixL_step (f:=trD (rnF old new) idA) hx
  have stK:=st
  obtain⟨b,rfl,hrow,-⟩:=dcR_focus (st.res (i:=0) rfl).1 hmx
  have st:=stK
  clear stK
  have hbS:=hrow.mem
  have hat:∀ w,DcRQ w (some ⟨b,0,none⟩) cap (mixL (trD (rnF old new) idA) ds j) S→w.cell? ⟨b,j*3,none⟩=some (str x.nm)∧w.frozen? ⟨b,j*3,none⟩=false∧DcRQ (w.setCell ⟨b,j*3,none⟩ (str ((rnF old new) x.nm))) (some ⟨b,0,none⟩) cap (mixL (trD (rnF old new) idA) ds (j+1)) S:=fun w h=>by
   obtain⟨b1,hb1,r1,c1,s1,-⟩:=dcR_focus h hmx
   simp only [Option.some.injEq,Addr.mk.injEq,and_true] at hb1
   subst hb1
   exact⟨c1 0 _ rfl,r1.fz _,hstep▸s1 _⟩
  have hsame:x.nm≠old→∀ w,DcRQ w (some ⟨b,0,none⟩) cap (mixL (trD (rnF old new) idA) ds j) S→DcRQ w (some ⟨b,0,none⟩) cap (mixL (trD (rnF old new) idA) ds (j+1)) S:=fun hne w h=>by
   rw [← hstep,rn_old hne,set_same hmx];exact h
  refine kt (vk4 1 2 6 7 (vc_seq (vc_block (sr ?_))))
  refine ym ?_
  refine ya ?_
  refine et (vk5 1 2 4 6 7 ?_)
  refine vdr Tryz.mixed [Yt 0,Yt 1,Yt 2,Yt 3,Yt 4,Nt 5] [.blk b2 (.cells [str old,str new].toArray 98 (0,0))] st ?_
  clear st;intro w st hS
  refine vp_take rfl rfl rfl hS (fun w st=>y_lda (vs:=[_,_]) st 0 rfl isAgg98 sizeOf98 rfl rfl) ?_
  iterate 2 refine pm hS ?_
  refine vp_take rfl rfl rfl hS (fun w st=>y_ia0 (k:=j) rfl rfl underlying23 sizeOf134 rfl (by omega)) ?_
  refine pf0 hS underlying134 sizeOf9 ?_
  refine vp_do rfl (e_call [_,_] rfl rfl call31 rfl (rnput_any old new x.nm S (fun w=>DcRQ w (some ⟨b,0,none⟩) cap (mixL (trD (rnF old new) idA) ds j) S) (fun w=>DcRQ w (some ⟨b,0,none⟩) cap (mixL (trD (rnF old new) idA) ds (j+1)) S) b (j*3) _ (st.res (i:=0) rfl).1 (st.res (i:=0) rfl).2.1 loc_dc loc_dc hbS hat hsame) ?_)
  rintro _ w ⟨hψ,cw⟩
  replace st:=st.within (ψ:=fun w=>DcRQ w (some ⟨b,0,none⟩) cap (mixL (trD (rnF old new) idA) ds (j+1)) S) cw (fun k hk=>hk) hSM hψ loc_dc
  refine vp_next st.dr ?_;intro hS
  refine vp_end (vq_block (vq_then (vk4 1 2 6 7 (vc_region ?_))))
  refine vy (y_add rfl rfl (by omega:_=((j+1:Nat):Int)) (by omega) (by omega)) ?_
  refine ym ?_
  refine vc_end ?_
  refine vq_again (j+1)  ⟨rfl,rfl,rfl,rfl,trivial⟩ st ?_ ?_
  ·omega
  omega
 intro hc8
 try simp only [dn] at hc8
 refine vc_exit (vq_then_exit (vq_then_exit (vq_block_exit ?_)))
 refine vq_ret0 (.inr rfl) results30 ?_
 refine⟨_,rfl,?_⟩
 obtain rfl:j=ds.length:=by omega
 rw [mixL_all] at st
 exact⟨(st.res (i:=0) rfl).1,st.chg⟩
theorem e1_kids (g:Wd→Wd) (x:Ex):(x.setNm (g x.nm)).kids=x.kids:=by cases x;rfl
theorem e1_end (g:Wd→Wd) (x:Ex):(x.setNm (g x.nm)).setKids (trEs g idA x.kids)=trE g idA x:=by cases x;rfl
theorem e_nm (x:Ex):x.setNm x.nm=x:=by cases x;rfl
set_option maxHeartbeats 1000000 in
theorem rnexprs_any (old new:Wd):∀ (n:Nat) (es:List Ex),szo es=n→OkEs es→∀ (oa:Option Addr) (cap:Nat) (S:List Nat) (w:World),ExRQ w oa cap es S→S.Nodup→
    Ret Tryz.prog 75 [.agg [str old,str new].toArray,.slice oa es.length cap] w fun v w'=>ExRQ w' oa cap (trEs (rnF old new) idA es) S∧Chg S w w':=by
 intro n
 refine Nat.strongRecOn n fun n ih=>?_
 intro es hn hok oa cap S w hQ hSN
 subst hn
 have hn:=hok.1
 refine ret_of [_,_] func75 rfl ntmps75 rfl ?_
 have st:=St.init w []
 obtain⟨w0,rfl⟩:∃ w0,w0=w:=⟨_,rfl⟩
 replace st:=St.tree1 (φ:=fun w=>ExRQ w oa cap es S) hQ hQ.lt loc_ex
 have hSM:∀ k∈S,k∈S∨w0.heap.size≤k:=fun k hk=>.inl hk
 refine sr ?_
 refine vc_e (e_bx (l:=[_,_]) st rfl rfl rfl rfl ?_)
 intro b2 w hb2 st
 refine et (vk2 1 2 (sr ?_))
 refine ym ?_
 refine vy (y_lensl rfl underlying142) ?_
 refine ym ?_
 refine et (vk4 1 2 6 7 (vc_block ?_))
 refine vc_loop (w0:=w0) (M:=S) (fun (j:Nat)=>[(1,.slice oa es.length cap),(2,.pointer (some ⟨b2,0,none⟩)),(6,.int .i64 (es.length:Int)),(7,.int .i64 (j:Int))]) (fun j=>[.tree S (fun w=>ExRQ w oa cap (mixL (trE (rnF old new) idA) es j) S),.blk b2 (.cells [str old,str new].toArray 98 (0,0))]) (fun j _=>j≤es.length) (fun j=>es.length - j) 0 ⟨rfl,rfl,rfl,rfl,trivial⟩ (by simpa only [mixL_zero] using st.pick [1,0] rfl (by decide)) (by omega) ?_
 clear st
 rintro j w hj st
 refine sr ?_
 refine vy (y_lss rfl rfl) ?_
 refine et (vk5 1 2 6 7 8 (vc_seq ?_))
 refine vif ?_ ?_
 ·intro hc8
  try simp only [dn] at hc8
  obtain⟨x,hx⟩:∃ x,es[j]?=some x:=⟨_,List.getElem?_eq_getElem (by omega)⟩
  have hkx:=hok.2 j x hx
  have hz:=mem_size hx
  have hz2:szo x.kids<szo es:=by have:=szo_kids x;omega
  have hmx:=mixL_get (f:=trE (rnF old new) idA) hx
  have hm1:((mixL (trE (rnF old new) idA) es j).set j (x.setNm ((rnF old new) x.nm)))[j]?=some (x.setNm ((rnF old new) x.nm)):=set_get hmx
  have hs12:((mixL (trE (rnF old new) idA) es j).set j (x.setNm ((rnF old new) x.nm))).set j ((x.setNm ((rnF old new) x.nm)).setKids (trEs (rnF old new) idA x.kids))=mixL (trE (rnF old new) idA) es (j+1):=by rw [List.set_set,e1_end];exact mixL_step hx
  have stK:=st
  obtain⟨b,o0,c0,S0,rfl,hrow,-⟩:=exR_focus (st.res (i:=0) rfl).1 hSN hmx
  have st:=stK
  clear stK
  have hbS:=hrow.mem
  have hat:∀ w,ExRQ w (some ⟨b,0,none⟩) cap (mixL (trE (rnF old new) idA) es j) S→w.cell? ⟨b,j*6+3,none⟩=some (str x.nm)∧w.frozen? ⟨b,j*6+3,none⟩=false∧ExRQ (w.setCell ⟨b,j*6+3,none⟩ (str ((rnF old new) x.nm))) (some ⟨b,0,none⟩) cap ((mixL (trE (rnF old new) idA) es j).set j (x.setNm ((rnF old new) x.nm))) S:=fun w h=>by
   obtain⟨b1,o1,c1,S1,hb1,r1,k1,-,-,-,s1,-⟩:=exR_focus h hSN hmx
   simp only [Option.some.injEq,Addr.mk.injEq,and_true] at hb1
   subst hb1
   exact⟨k1 3 _ rfl,r1.fz _,s1 _⟩
  have hsame:x.nm≠old→∀ w,ExRQ w (some ⟨b,0,none⟩) cap (mixL (trE (rnF old new) idA) es j) S→ExRQ w (some ⟨b,0,none⟩) cap ((mixL (trE (rnF old new) idA) es j).set j (x.setNm ((rnF old new) x.nm))) S:=fun hne w h=>by
   rw [rn_old hne,e_nm,set_same hmx];exact h
  refine kt (vk4 1 2 6 7 (vc_seq (vc_block (sr ?_))))
  refine ym ?_
  refine ya ?_
  refine et (vk5 1 2 4 6 7 (vc_seq ?_))
  refine vdr Tryz.mixed [Yt 0,Yt 1,Yt 2,Yt 3,Yt 4,Nt 5] [.blk b2 (.cells [str old,str new].toArray 98 (0,0))] st ?_
  clear st;intro w st hS
  refine vp_take rfl rfl rfl hS (fun w st=>y_lda (vs:=[_,_]) st 0 rfl isAgg98 sizeOf98 rfl rfl) ?_
  iterate 2 refine pm hS ?_
  refine vp_take rfl rfl rfl hS (fun w st=>y_ia0 (k:=j) rfl rfl underlying142 sizeOf177 rfl (by omega)) ?_
  refine vp_take rfl rfl rfl hS (fun w st=>y_fa (k:=3) rfl underlying177 rfl rfl sizeOf9 rfl) ?_
  refine vp_do rfl (e_call [_,_] rfl rfl call31 rfl (rnput_any old new x.nm S (fun w=>ExRQ w (some ⟨b,0,none⟩) cap (mixL (trE (rnF old new) idA) es j) S) (fun w=>ExRQ w (some ⟨b,0,none⟩) cap ((mixL (trE (rnF old new) idA) es j).set j (x.setNm ((rnF old new) x.nm))) S) b (j*6+3) _ (st.res (i:=0) rfl).1 (st.res (i:=0) rfl).2.1 loc_ex loc_ex hbS hat hsame) ?_)
  rintro _ w ⟨hψ,cw⟩
  replace st:=st.within (ψ:=fun w=>ExRQ w (some ⟨b,0,none⟩) cap ((mixL (trE (rnF old new) idA) es j).set j (x.setNm ((rnF old new) x.nm))) S) cw (fun k hk=>hk) hSM hψ loc_ex
  refine vp_next st.dr ?_;intro hS
  refine vp_end (vq_then (vk5 1 2 4 6 7 ?_))
  refine vdr Tryz.mixed [Yt 0,Yt 1,Yt 2,Yt 3,Yt 4,Nt 5,Nt 6] [.blk b2 (.cells [str old,str new].toArray 98 (0,0))] st ?_
  clear st;intro w st hS
  refine vp_take rfl rfl rfl hS (fun w st=>y_lda (vs:=[_,_]) st 0 rfl isAgg98 sizeOf98 rfl rfl) ?_
  iterate 2 refine pm hS ?_
  refine vp_take rfl rfl rfl hS (fun w st=>y_ia0 (k:=j) rfl rfl underlying142 sizeOf177 rfl (by omega)) ?_
  refine vp_take rfl rfl rfl hS (fun w st=>y_fa (k:=4) rfl underlying177 rfl rfl sizeOf142 rfl) ?_
  obtain⟨b3,o3,c3,S3,hb3,r3,k3,q3,n3,sub3,-,-,put3⟩:=exR_focus (st.res (i:=0) rfl).1 hSN hm1
  simp only [Option.some.injEq,Addr.mk.injEq,and_true] at hb3
  subst hb3
  rw [e1_kids] at q3
  refine vp_do rfl (e_run rfl rfl ((by exact y_ldc rfl isAgg142 (k3 4 (.slice o3 x.kids.length c3) (by rw [e1_kids];rfl)))) ?_)
  refine vp_next st.dr ?_;intro hS
  refine vp_do rfl (e_call [_,_] rfl rfl call75 rfl (ih _ hz2 x.kids rfl hkx.kids o3 c3 S3 _ q3 n3) ?_)
  rintro _ w ⟨hq,hc⟩
  replace st:=st.within (ψ:=fun w=>ExRQ w (some ⟨b,0,none⟩) cap (mixL (trE (rnF old new) idA) es (j+1)) S) hc sub3 hSM (hs12▸put3 w (trEs (rnF old new) idA x.kids) (by rw [trEs_len,e1_kids]) hq hc) loc_ex
  refine vp_next st.dr ?_;intro hS
  refine vp_end (vq_block (vq_then (vk4 1 2 6 7 (vc_region ?_))))
  refine vy (y_add rfl rfl (by omega:_=((j+1:Nat):Int)) (by omega) (by omega)) ?_
  refine ym ?_
  refine vc_end ?_
  refine vq_again (j+1)  ⟨rfl,rfl,rfl,rfl,trivial⟩ st ?_ ?_
  ·omega
  omega
 intro hc8
 try simp only [dn] at hc8
 refine vc_exit (vq_then_exit (vq_then_exit (vq_block_exit ?_)))
 refine vq_ret0 (.inr rfl) results75 ?_
 refine⟨_,rfl,?_⟩
 obtain rfl:j=es.length:=by omega
 rw [mixL_all,← trEs_map] at st
 exact⟨(st.res (i:=0) rfl).1,st.chg⟩
end Go.Proofs.YtkhpdpenlnhbiaaGreatDoor
