/- A part of the proof: contracts of functions and plain laws; each theorem says its own conditions. -/
import Derived.Test.YtkhpdpenlnhbiaaGreatDoorTopLoweredK7
import Derived.Test.YtkhpdpenlnhbiaaGreatDoorTopLoweredME
import Derived.Test.YtkhpdpenlnhbiaaGreatDoorTopLoweredK3
import Derived.Test.YtkhpdpenlnhbiaaGreatDoorTopLoweredK19
set_option linter.unusedVariables false
set_option linter.unusedSimpArgs false
namespace Go.Proofs.YtkhpdpenlnhbiaaGreatDoor
open Go.RowKit Sx LexS ParS _root_.Go.Proofs.Tryz
def y1 (g:Wd→Wd) (x:Sm):Sm:=x.setNm (g x.nm)
def y2 (g:Wd→Wd) (x:Sm):Sm:=(y1 g x).setOther (g x.other)
def y3 (g:Wd→Wd) (x:Sm):Sm:=(y2 g x).setE (trEs g idA x.e)
def y4 (g:Wd→Wd) (x:Sm):Sm:=(y3 g x).setBody (trSs g idA x.body)
theorem y2_e (g:Wd→Wd) (x:Sm):(y2 g x).e=x.e:=by cases x;rfl
theorem y3_body (g:Wd→Wd) (x:Sm):(y3 g x).body=x.body:=by cases x;rfl
theorem y4_els (g:Wd→Wd) (x:Sm):(y4 g x).els=x.els:=by cases x;rfl
theorem y4_end (g:Wd→Wd) (x:Sm):(y4 g x).setEls (trSs g idA x.els)=trS g idA x:=by cases x;rfl
theorem y1_other (g:Wd→Wd) (x:Sm):(y1 g x).other=x.other:=by cases x;rfl
theorem s_nm (x:Sm):x.setNm x.nm=x:=by cases x;rfl
theorem y_oth (g:Wd→Wd) (x:Sm):(y1 g x).setOther x.other=y1 g x:=by cases x;rfl
theorem _root_.Sx.St.rot {w0 w:World} {M:List Nat} {r s:Res} {hs:List Res} (st:St w0 M (r::s::hs) w):St w0 M (s::r::hs) w:=by
 obtain⟨b1,b2⟩:=List.pairwise_cons.1 st.nodup
 obtain⟨b2,b3⟩:=List.pairwise_cons.1 b2
 refine⟨st.chg,List.pairwise_cons.2 ⟨fun x hx k hk=>?_,List.pairwise_cons.2 ⟨fun x hx=>b1 x (.tail _ hx),b3⟩⟩,fun x hx=>st.here x (by
   rcases List.mem_cons.1 hx with rfl|hx
   · exact .tail _ (.head _)
   · rcases List.mem_cons.1 hx with rfl|hx
     · exact .head _
     · exact .tail _ (.tail _ hx))⟩
 rcases List.mem_cons.1 hx with rfl|hx
 ·exact fun hk'=>b1 _ (.head _) k hk' hk
 ·exact b2 x hx k hk
set_option maxHeartbeats 4000000 in
theorem rnstmts_any (old new:Wd):∀ (n:Nat) (es:List Sm),szo es=n→OkSs es→∀ (oa:Option Addr) (cap:Nat) (S:List Nat) (w:World),SmRQ w oa cap es S→S.Nodup→
    Ret Tryz.prog 32 [.agg [str old,str new].toArray,.slice oa es.length cap] w fun v w'=>SmRQ w' oa cap (trSs (rnF old new) idA es) S∧Chg S w w':=by
 intro n
 refine Nat.strongRecOn n fun n ih=>?_
 intro es hn hok oa cap S w hQ hSN
 subst hn
 have hn:=hok.1
 refine ret_of [_,_] func32 rfl ntmps32 rfl ?_
 have st:=St.init w []
 obtain⟨w0,rfl⟩:∃ w0,w0=w:=⟨_,rfl⟩
 replace st:=St.tree1 (φ:=fun w=>SmRQ w oa cap es S) hQ hQ.lt loc_sm
 have hSM:∀ k∈S,k∈S∨w0.heap.size≤k:=fun k hk=>.inl hk
 refine sr ?_
 refine vc_e (e_bx (l:=[_,_]) st rfl rfl rfl rfl ?_)
 intro b2 w hb2 st
 refine et (vk2 1 2 (sr ?_))
 refine ym ?_
 refine vy (y_lensl rfl underlying48) ?_
 refine ym ?_
 refine et (vk4 1 2 6 7 (vc_block ?_))
 refine vc_loop (w0:=w0) (M:=S) (fun (j:Nat)=>[(1,.slice oa es.length cap),(2,.pointer (some ⟨b2,0,none⟩)),(6,.int .i64 (es.length:Int)),(7,.int .i64 (j:Int))]) (fun j=>[.tree S (fun w=>SmRQ w oa cap (mixL (trS (rnF old new) idA) es j) S),.blk b2 (.cells [str old,str new].toArray 98 (0,0))]) (fun j _=>j≤es.length) (fun j=>es.length - j) 0 ⟨rfl,rfl,rfl,rfl,trivial⟩ (by simpa only [mixL_zero] using st.pick [1,0] rfl (by decide)) (by omega) ?_
 clear st
 rintro j w hj st
 refine sr ?_
 refine vy (y_lss rfl rfl) ?_
 refine et (vk5 1 2 6 7 8 (vc_seq ?_))
 refine vif ?_ ?_
 ·intro hc8
  try simp only [dn] at hc8
  obtain⟨x,hx⟩:∃ x,es[j]?=some x:=⟨_,List.getElem?_eq_getElem (by omega)⟩
  have hkx:=hok.2 j x hx
  have hz:=mem_size hx
  have hzB : szo x.body < szo es := by have : szo x.body < szo x := by cases x; exact sm_size.1
                                       omega
  have hzL : szo x.els < szo es := by have : szo x.els < szo x := by cases x; exact sm_size.2
                                      omega
  have hm0:=mixL_get (f:=trS (rnF old new) idA) hx
  have hm1:((mixL (trS (rnF old new) idA) es j).set j (y1 (rnF old new) x))[j]?=some (y1 (rnF old new) x):=set_get hm0
  have hm2:((mixL (trS (rnF old new) idA) es j).set j (y2 (rnF old new) x))[j]?=some (y2 (rnF old new) x):=set_get hm0
  have hm3:((mixL (trS (rnF old new) idA) es j).set j (y3 (rnF old new) x))[j]?=some (y3 (rnF old new) x):=set_get hm0
  have hm4:((mixL (trS (rnF old new) idA) es j).set j (y4 (rnF old new) x))[j]?=some (y4 (rnF old new) x):=set_get hm0
  have h12:((mixL (trS (rnF old new) idA) es j).set j (y1 (rnF old new) x)).set j ((y1 (rnF old new) x).setOther ((rnF old new) x.other))=((mixL (trS (rnF old new) idA) es j).set j (y2 (rnF old new) x)):=List.set_set ..
  have h23:((mixL (trS (rnF old new) idA) es j).set j (y2 (rnF old new) x)).set j ((y2 (rnF old new) x).setE (trEs (rnF old new) idA x.e))=((mixL (trS (rnF old new) idA) es j).set j (y3 (rnF old new) x)):=List.set_set ..
  have h34:((mixL (trS (rnF old new) idA) es j).set j (y3 (rnF old new) x)).set j ((y3 (rnF old new) x).setBody (trSs (rnF old new) idA x.body))=((mixL (trS (rnF old new) idA) es j).set j (y4 (rnF old new) x)):=List.set_set ..
  have h45:((mixL (trS (rnF old new) idA) es j).set j (y4 (rnF old new) x)).set j ((y4 (rnF old new) x).setEls (trSs (rnF old new) idA x.els))=mixL (trS (rnF old new) idA) es (j+1):=by rw [List.set_set,y4_end];exact mixL_step hx
  have stK:=st
  obtain⟨b,_,_,_,_,_,_,_,_,_,rfl,hrow,-⟩:=smR_focus (st.res (i:=0) rfl).1 hSN hm0
  have st:=stK
  clear stK
  have hbS:=hrow.mem
  have hat1:∀ w,SmRQ w (some ⟨b,0,none⟩) cap (mixL (trS (rnF old new) idA) es j) S→w.cell? ⟨b,j*7+1,none⟩=some (str x.nm)∧w.frozen? ⟨b,j*7+1,none⟩=false∧SmRQ (w.setCell ⟨b,j*7+1,none⟩ (str ((rnF old new) x.nm))) (some ⟨b,0,none⟩) cap ((mixL (trS (rnF old new) idA) es j).set j (y1 (rnF old new) x)) S:=fun w h=>by
   obtain⟨b1,oe,ce,ob,cb,ol,cl,Se,Sb,Sl,hb1,r1,k1,-,-,-,-,-,-,-,-,-,z1,z2,z3,-⟩:=smR_focus h hSN hm0
   simp only [Option.some.injEq,Addr.mk.injEq,and_true] at hb1
   subst hb1
   exact⟨k1 1 _ rfl,r1.fz _,z1 _⟩
  have hsame1:x.nm≠old→∀ w,SmRQ w (some ⟨b,0,none⟩) cap (mixL (trS (rnF old new) idA) es j) S→SmRQ w (some ⟨b,0,none⟩) cap ((mixL (trS (rnF old new) idA) es j).set j (y1 (rnF old new) x)) S:=fun hne w h=>by
   rw [y1,rn_old hne,s_nm,set_same hm0];exact h
  have hat2:∀ w,SmRQ w (some ⟨b,0,none⟩) cap ((mixL (trS (rnF old new) idA) es j).set j (y1 (rnF old new) x)) S→w.cell? ⟨b,j*7+2,none⟩=some (str x.other)∧w.frozen? ⟨b,j*7+2,none⟩=false∧SmRQ (w.setCell ⟨b,j*7+2,none⟩ (str ((rnF old new) x.other))) (some ⟨b,0,none⟩) cap ((mixL (trS (rnF old new) idA) es j).set j (y2 (rnF old new) x)) S:=fun w h=>by
   obtain⟨b1,oe,ce,ob,cb,ol,cl,Se,Sb,Sl,hb1,r1,k1,-,-,-,-,-,-,-,-,-,z1,z2,z3,-⟩:=smR_focus h hSN hm1
   simp only [Option.some.injEq,Addr.mk.injEq,and_true] at hb1
   subst hb1
   exact⟨by have:=k1 2 _ rfl;rw [y1_other] at this;exact this,r1.fz _,h12▸z2 _⟩
  have hsame2:x.other≠old→∀ w,SmRQ w (some ⟨b,0,none⟩) cap ((mixL (trS (rnF old new) idA) es j).set j (y1 (rnF old new) x)) S→SmRQ w (some ⟨b,0,none⟩) cap ((mixL (trS (rnF old new) idA) es j).set j (y2 (rnF old new) x)) S:=fun hne w h=>by
   rw [← h12,rn_old hne,y_oth,set_same hm1];exact h
  refine kt (vk4 1 2 6 7 (vc_seq (vc_block (sr ?_))))
  refine ym ?_
  refine ya ?_
  refine et (vk5 1 2 4 6 7 (vc_seq ?_))
  refine vdr Tryz.mixed [Yt 0,Yt 1,Yt 2,Yt 3,Yt 4,Nt 5] [.blk b2 (.cells [str old,str new].toArray 98 (0,0))] st ?_
  clear st;intro w st hS
  refine vp_take rfl rfl rfl hS (fun w st=>y_lda (vs:=[_,_]) st 0 rfl isAgg98 sizeOf98 rfl rfl) ?_
  iterate 2 refine pm hS ?_
  refine vp_take rfl rfl rfl hS (fun w st=>y_ia0 (k:=j) rfl rfl underlying48 sizeOf144 rfl (by omega)) ?_
  refine vp_take rfl rfl rfl hS (fun w st=>y_fa (k:=1) rfl underlying144 rfl rfl sizeOf9 rfl) ?_
  refine vp_do rfl (e_call [_,_] rfl rfl call31 rfl (rnput_any old new x.nm S (fun w=>SmRQ w (some ⟨b,0,none⟩) cap (mixL (trS (rnF old new) idA) es j) S) (fun w=>SmRQ w (some ⟨b,0,none⟩) cap ((mixL (trS (rnF old new) idA) es j).set j (y1 (rnF old new) x)) S) b (j*7+1) _ (st.res (i:=0) rfl).1 (st.res (i:=0) rfl).2.1 loc_sm loc_sm hbS hat1 hsame1) ?_)
  rintro _ w ⟨hψ,cw⟩
  replace st:=st.within (ψ:=fun w=>SmRQ w (some ⟨b,0,none⟩) cap ((mixL (trS (rnF old new) idA) es j).set j (y1 (rnF old new) x)) S) cw (fun k hk=>hk) hSM hψ loc_sm
  refine vp_next st.dr ?_;intro hS
  refine vp_end (vq_then (vk5 1 2 4 6 7 (vc_seq ?_)))
  refine vdr Tryz.mixed [Yt 0,Yt 1,Yt 2,Yt 3,Yt 4,Nt 5] [.blk b2 (.cells [str old,str new].toArray 98 (0,0))] st ?_
  clear st;intro w st hS
  refine vp_take rfl rfl rfl hS (fun w st=>y_lda (vs:=[_,_]) st 0 rfl isAgg98 sizeOf98 rfl rfl) ?_
  iterate 2 refine pm hS ?_
  refine vp_take rfl rfl rfl hS (fun w st=>y_ia0 (k:=j) rfl rfl underlying48 sizeOf144 rfl (by omega)) ?_
  refine vp_take rfl rfl rfl hS (fun w st=>y_fa (k:=2) rfl underlying144 rfl rfl sizeOf9 rfl) ?_
  refine vp_do rfl (e_call [_,_] rfl rfl call31 rfl (rnput_any old new x.other S (fun w=>SmRQ w (some ⟨b,0,none⟩) cap ((mixL (trS (rnF old new) idA) es j).set j (y1 (rnF old new) x)) S) (fun w=>SmRQ w (some ⟨b,0,none⟩) cap ((mixL (trS (rnF old new) idA) es j).set j (y2 (rnF old new) x)) S) b (j*7+2) _ (st.res (i:=0) rfl).1 (st.res (i:=0) rfl).2.1 loc_sm loc_sm hbS hat2 hsame2) ?_)
  rintro _ w ⟨hψ,cw⟩
  replace st:=st.within (ψ:=fun w=>SmRQ w (some ⟨b,0,none⟩) cap ((mixL (trS (rnF old new) idA) es j).set j (y2 (rnF old new) x)) S) cw (fun k hk=>hk) hSM hψ loc_sm
  refine vp_next st.dr ?_;intro hS
  refine vp_end (vq_then (vk5 1 2 4 6 7 (vc_seq ?_)))
  refine vdr Tryz.mixed [Yt 0,Yt 1,Yt 2,Yt 3,Yt 4,Nt 5,Nt 6] [.blk b2 (.cells [str old,str new].toArray 98 (0,0))] st ?_
  clear st;intro w st hS
  refine vp_take rfl rfl rfl hS (fun w st=>y_lda (vs:=[_,_]) st 0 rfl isAgg98 sizeOf98 rfl rfl) ?_
  iterate 2 refine pm hS ?_
  refine vp_take rfl rfl rfl hS (fun w st=>y_ia0 (k:=j) rfl rfl underlying48 sizeOf144 rfl (by omega)) ?_
  refine vp_take rfl rfl rfl hS (fun w st=>y_fa (k:=3) rfl underlying144 rfl rfl sizeOf142 rfl) ?_
  obtain⟨b4,oe4,ce4,ob4,cb4,ol4,cl4,Se4,Sb4,Sl4,hb4,r4,k4,qe4,qb4,ql4,ne4,nb4,nl4,ue4,ub4,ul4,z1,z2,z3,pe4,pb4,pl4⟩:=smR_focus (st.res (i:=0) rfl).1 hSN hm2
  simp only [Option.some.injEq,Addr.mk.injEq,and_true] at hb4
  subst hb4
  rw [y2_e] at qe4
  refine vp_do rfl (e_run rfl rfl ((by exact y_ldc rfl isAgg142 (k4 3 (.slice oe4 x.e.length ce4) (by rw [y2_e];rfl)))) ?_)
  refine vp_next st.dr ?_;intro hS
  refine vp_do rfl (e_call [_,_] rfl rfl call75 rfl (rnexprs_any old new _ x.e rfl hkx.e oe4 ce4 Se4 _ qe4 ne4) ?_)
  rintro _ w ⟨hq,hc⟩
  replace st:=st.within (ψ:=fun w=>SmRQ w (some ⟨b,0,none⟩) cap ((mixL (trS (rnF old new) idA) es j).set j (y3 (rnF old new) x)) S) hc ue4 hSM (h23▸pe4 w (trEs (rnF old new) idA x.e) (by rw [trEs_len,y2_e]) hq hc) loc_sm
  refine vp_next st.dr ?_;intro hS
  refine vp_end (vq_then (vk5 1 2 4 6 7 (vc_seq ?_)))
  refine vdr Tryz.mixed [Yt 0,Yt 1,Yt 2,Yt 3,Yt 4,Nt 5,Nt 6] [.blk b2 (.cells [str old,str new].toArray 98 (0,0))] st ?_
  clear st;intro w st hS
  refine vp_take rfl rfl rfl hS (fun w st=>y_lda (vs:=[_,_]) st 0 rfl isAgg98 sizeOf98 rfl rfl) ?_
  iterate 2 refine pm hS ?_
  refine vp_take rfl rfl rfl hS (fun w st=>y_ia0 (k:=j) rfl rfl underlying48 sizeOf144 rfl (by omega)) ?_
  refine vp_take rfl rfl rfl hS (fun w st=>y_fa (k:=4) rfl underlying144 rfl rfl sizeOf48 rfl) ?_
  obtain⟨b5,oe5,ce5,ob5,cb5,ol5,cl5,Se5,Sb5,Sl5,hb5,r5,k5,qe5,qb5,ql5,ne5,nb5,nl5,ue5,ub5,ul5,z1,z2,z3,pe5,pb5,pl5⟩:=smR_focus (st.res (i:=0) rfl).1 hSN hm3
  simp only [Option.some.injEq,Addr.mk.injEq,and_true] at hb5
  subst hb5
  rw [y3_body] at qb5
  refine vp_do rfl (e_run rfl rfl ((by exact y_ldc rfl isAgg48 (k5 4 (.slice ob5 x.body.length cb5) (by rw [y3_body];rfl)))) ?_)
  refine vp_next st.dr ?_;intro hS
  refine vp_do rfl (e_call [_,_] rfl rfl call32 rfl (ih _ hzB x.body rfl hkx.body ob5 cb5 Sb5 _ qb5 nb5) ?_)
  rintro _ w ⟨hq,hc⟩
  replace st:=st.within (ψ:=fun w=>SmRQ w (some ⟨b,0,none⟩) cap ((mixL (trS (rnF old new) idA) es j).set j (y4 (rnF old new) x)) S) hc ub5 hSM (h34▸pb5 w (trSs (rnF old new) idA x.body) (by rw [trSs_len,y3_body]) hq hc) loc_sm
  refine vp_next st.dr ?_;intro hS
  refine vp_end (vq_then (vk5 1 2 4 6 7 ?_))
  refine vdr Tryz.mixed [Yt 0,Yt 1,Yt 2,Yt 3,Yt 4,Nt 5,Nt 6] [.blk b2 (.cells [str old,str new].toArray 98 (0,0))] st ?_
  clear st;intro w st hS
  refine vp_take rfl rfl rfl hS (fun w st=>y_lda (vs:=[_,_]) st 0 rfl isAgg98 sizeOf98 rfl rfl) ?_
  iterate 2 refine pm hS ?_
  refine vp_take rfl rfl rfl hS (fun w st=>y_ia0 (k:=j) rfl rfl underlying48 sizeOf144 rfl (by omega)) ?_
  refine vp_take rfl rfl rfl hS (fun w st=>y_fa (k:=5) rfl underlying144 rfl rfl sizeOf48 rfl) ?_
  obtain⟨b6,oe6,ce6,ob6,cb6,ol6,cl6,Se6,Sb6,Sl6,hb6,r6,k6,qe6,qb6,ql6,ne6,nb6,nl6,ue6,ub6,ul6,z1,z2,z3,pe6,pb6,pl6⟩:=smR_focus (st.res (i:=0) rfl).1 hSN hm4
  simp only [Option.some.injEq,Addr.mk.injEq,and_true] at hb6
  subst hb6
  rw [y4_els] at ql6
  refine vp_do rfl (e_run rfl rfl ((by exact y_ldc rfl isAgg48 (k6 5 (.slice ol6 x.els.length cl6) (by rw [y4_els];rfl)))) ?_)
  refine vp_next st.dr ?_;intro hS
  refine vp_do rfl (e_call [_,_] rfl rfl call32 rfl (ih _ hzL x.els rfl hkx.els ol6 cl6 Sl6 _ ql6 nl6) ?_)
  rintro _ w ⟨hq,hc⟩
  replace st:=st.within (ψ:=fun w=>SmRQ w (some ⟨b,0,none⟩) cap (mixL (trS (rnF old new) idA) es (j+1)) S) hc ul6 hSM (h45▸pl6 w (trSs (rnF old new) idA x.els) (by rw [trSs_len,y4_els]) hq hc) loc_sm
  refine vp_next st.dr ?_;intro hS
  refine vp_end (vq_block (vq_then (vk4 1 2 6 7 (vc_region ?_))))
  refine vy (y_add rfl rfl (by omega:_=((j+1:Nat):Int)) (by omega) (by omega)) ?_
  refine ym ?_
  refine vc_end ?_
  refine vq_again (j+1)  ⟨rfl,rfl,rfl,rfl,trivial⟩ st ?_ ?_
  ·omega
  omega
 intro hc8
 try simp only [dn] at hc8
 refine vc_exit (vq_then_exit (vq_then_exit (vq_block_exit ?_)))
 refine vq_ret0 (.inr rfl) results32 ?_
 refine⟨_,rfl,?_⟩
 obtain rfl:j=es.length:=by omega
 rw [mixL_all,← trSs_map] at st
 exact⟨(st.res (i:=0) rfl).1,st.chg⟩
theorem t1_end (g:Wd→Wd) (t:Th):(((t.setNm (g t.nm)).setLocals (t.locals.map (trD g idA))).setBody (trSs g idA t.body))=trT g idA t:=by cases t;rfl
theorem t_nm (t:Th):t.setNm t.nm=t:=by cases t;rfl
def RenP (p:Pg) (old new:Wd) (w:World) (v:Value) (w':World):Prop:=Chg [] w w'∧(v=.tuple #[nil3,.int .i64 51]∨(isName new=true∧stdP p new=false∧stdP p old=true∧∃ l S,v=.tuple #[.agg l.toArray,.int .i64 0]∧PgQ w' (trP (rnF old new) idA p) l S∧Nw w.heap.size S))
set_option maxHeartbeats 4000000 in
theorem rename_any (p:Pg) (n0:Nat) (old new:Wd) (os ol ot:Option Addr) (cs cl ct:Nat) (hpg:pgOk p=true) (hok:OkP p) (hck:ckP p=true) (w:World) (hSh:DcRow w (·<n0) os p.shared) (hL:DcRow w (·<n0) ol p.locks) (hT:ThRow w (·<n0) ot p.threads) (hn0:n0≤w.heap.size) :
    Ret Tryz.prog 11 [.agg [.slice os p.shared.length cs,.slice ol p.locks.length cl,.slice ot p.threads.length ct].toArray,str old,str new] w (RenP p old new w):=by
 refine ret_of [_,_,_] func11 rfl ntmps11 rfl ?_
 have st:=St.init w []
 obtain⟨w0,rfl⟩:∃ w0,w0=w:=⟨_,rfl⟩
 have hn1:=hok.1.1
 have hn2:=hok.2.1.1
 have hn3:=hok.2.2.1
 refine sr ?_
 refine vc_e (e_bx (l:=[_,_,_]) st rfl rfl rfl rfl ?_)
 intro b3 w hb3 st
 refine vc_e (e_al (l:=[_,_,_]) st rfl rfl zeroValue26 rfl ?_)
 intro b6 w hb6 st
 refine ya ?_
 refine et (vk4 1 2 3 6 (vc_seq (sr ?_)))
 refine yla st 1 [_,_,_] isAgg26 sizeOf26 ?_
 refine vc_e (e_call [_] rfl rfl call6 rfl (ccheck_any p n0 os ol ot cs cl ct hpg hok _ (hSh.kept st.sm) (hL.kept st.sm) (hT.kept st.sm) (Nat.le_trans hn0 st.chg.size)) ?_)
 rintro _ w ⟨⟨fp,fr,rfl⟩,cw⟩
 replace st:=st.call0 cw
 rw [hck]
 refine ym ?_
 iterate 2 refine vy (y_ext rfl rfl) ?_
 refine vc_e (e_al (l:=[_,_]) st rfl rfl zeroValue29 rfl ?_)
 intro b9 w hb9 st
 refine ya ?_
 refine vc_e (ests st 0 [_,_] sizeOf29 ?_)
 intro w st;dsimp only [setNth,wr] at st
 refine et (vk5 1 2 3 6 8 (sr ?_))
 refine ym ?_
 refine vy (y_nei rfl rfl) ?_
 refine et (vk6 1 2 3 6 8 20 ?_)
 refine vif ?_ ?_
 ·intro hc20
  exfalso;revert hc20;decide
 intro hc20
 try simp only [dn] at hc20
 refine kt (vk4 1 2 3 6 (vc_seq (sr ?_)))
 refine ym ?_
 refine vc_e (e_call [_] rfl rfl call27 rfl (name_any _ _) ?_)
 rintro _ _ ⟨rfl,rfl⟩
 refine vy (y_not rfl) ?_
 refine vmb ?_ ?_
 ·intro hg26
  try simp only [dn] at hg26
  iterate 3 refine vsk ?_
  refine ypt ?_
  refine ym ?_
  iterate 4 refine vsk ?_
  refine ypt ?_
  refine et (vk5 1 2 3 6 36 ?_)
  refine vc_ift rfl ?_
  refine sr ?_
  refine vy (ybd (.agg #[_,_,_]) []) ?_
  refine vc_e (ests st 1 [_,_,_] sizeOf26 ?_)
  intro w st;dsimp only [setNth,wr] at st
  refine ya ?_
  refine et (vk2 6 7 (vc_ret (vq_then_ret ?_)))
  refine vq_ret2 st (.inl rfl) results11 (by exact .cell 1 rfl rfl isAgg26 sizeOf26) (.tmp rfl) ?_
  refine⟨_,rfl,?_⟩
  (exact⟨st.chg,.inl rfl⟩)
 intro hg26
 try simp only [dn] at hg26
 refine yla st 2 [_,_,_] isAgg26 sizeOf26 ?_
 refine ym ?_
 refine vc_e (e_call [_,_] rfl rfl call28 rfl (stands_any p n0 os ol ot cs cl ct hok _ _ (hSh.kept st.sm) (hL.kept st.sm) (hT.kept st.sm)) ?_)
 rintro _ w ⟨rfl,cw⟩
 replace st:=st.call0 cw
 refine ypf ?_
 refine vmb ?_ ?_
 ·intro hg31
  try simp only [dn] at hg31
  iterate 4 refine vsk ?_
  refine ypt ?_
  refine et (vk5 1 2 3 6 36 ?_)
  refine vc_ift rfl ?_
  refine sr ?_
  refine vy (ybd (.agg #[_,_,_]) []) ?_
  refine vc_e (ests st 1 [_,_,_] sizeOf26 ?_)
  intro w st;dsimp only [setNth,wr] at st
  refine ya ?_
  refine et (vk2 6 7 (vc_ret (vq_then_ret ?_)))
  refine vq_ret2 st (.inl rfl) results11 (by exact .cell 1 rfl rfl isAgg26 sizeOf26) (.tmp rfl) ?_
  refine⟨_,rfl,?_⟩
  (exact⟨st.chg,.inl rfl⟩)
 intro hg31
 try simp only [dn] at hg31
 refine yla st 2 [_,_,_] isAgg26 sizeOf26 ?_
 refine ym ?_
 refine vc_e (e_call [_,_] rfl rfl call28 rfl (stands_any p n0 os ol ot cs cl ct hok _ _ (hSh.kept st.sm) (hL.kept st.sm) (hT.kept st.sm)) ?_)
 rintro _ w ⟨rfl,cw⟩
 replace st:=st.call0 cw
 refine vy (y_not rfl) ?_
 refine ypf ?_
 refine et (vk5 1 2 3 6 36 ?_)
 refine vif ?_ ?_
 ·intro hc36
  try simp only [dn] at hc36
  refine sr ?_
  refine vy (ybd (.agg #[_,_,_]) []) ?_
  refine vc_e (ests st 1 [_,_,_] sizeOf26 ?_)
  intro w st;dsimp only [setNth,wr] at st
  refine ya ?_
  refine et (vk2 6 7 (vc_ret (vq_then_ret ?_)))
  refine vq_ret2 st (.inl rfl) results11 (by exact .cell 1 rfl rfl isAgg26 sizeOf26) (.tmp rfl) ?_
  refine⟨_,rfl,?_⟩
  (exact⟨st.chg,.inl rfl⟩)
 intro hc36
 try simp only [dn] at hc36
 have hnmN:isName new=true:=by simp_all
 have hstN:stdP p new=false:=by simp_all
 have hstO:stdP p old=true:=by simp_all
 refine kt (vk4 1 2 3 6 (sr ?_))
 refine yla st 2 [_,_,_] isAgg26 sizeOf26 ?_
 refine vc_e (e_call [_] rfl rfl call29 rfl (pcopyP_any p hok os ol ot cs cl ct _ (hSh.kept st.sm) (hL.kept st.sm) (hT.kept st.sm) (Nat.le_trans hn0 st.chg.size)) ?_)
 rintro _ w ⟨ql_,Sq,rfl,hQ,hNw,cw⟩
 obtain⟨qs,ks,ql,kl,qt,ktt,Ss,Sl,St_,rfl,hq1,hq2,hq3,rfl⟩:=hQ
 have hNw0:=hNw.le st.chg.size
 have hnd:=hNw.1
 obtain⟨hSs,hnd2,hd1⟩:=List.nodup_append.1 hnd
 obtain⟨hSl,hSt,hd2⟩:=List.nodup_append.1 hnd2
 replace st:=St.pushR (r:=.tree (Ss++(Sl++St_)) (fun w=>DcRQ w qs ks p.shared Ss∧DcRQ w ql kl p.locks Sl∧ThRQ w qt ktt p.threads St_)) st cw (holds_of ⟨hq1,hq2,hq3⟩ (fun b hb=>by
   rcases List.mem_append.1 hb with hb|hb
   · exact hq1.lt b hb
   · rcases List.mem_append.1 hb with hb|hb
     · exact hq2.lt b hb
     · exact hq3.lt b hb) (fun a b h hk=>⟨h.1.kept fun x hx=>hk x (List.mem_append.2 (.inl hx)),h.2.1.kept fun x hx=>hk x (List.mem_append.2 (.inr (List.mem_append.2 (.inl hx)))),h.2.2.kept fun x hx=>hk x (List.mem_append.2 (.inr (List.mem_append.2 (.inr hx))))⟩)) hNw.2
 have hr:=(st.res (i:=0) rfl).1
 replace st:=st.split (φ:=fun w=>DcRQ w qs ks p.shared Ss) (ψ:=fun w=>DcRQ w ql kl p.locks Sl∧ThRQ w qt ktt p.threads St_) hnd hr.1 hr.2 loc_dc (loc_of fun a b h hk=>⟨h.1.kept fun x hx=>hk x (List.mem_append.2 (.inl hx)),h.2.kept fun x hx=>hk x (List.mem_append.2 (.inr hx))⟩)
 have hl9:∀ (hs:List Res),(List.map (fun _=>()) hs).length=hs.length:=fun hs=>List.length_map ..
 replace st:=(St.rot st)
 have hr2:=(st.res (i:=0) rfl).1
 replace st:=st.split (φ:=fun w=>DcRQ w ql kl p.locks Sl) (ψ:=fun w=>ThRQ w qt ktt p.threads St_) hnd2 hr2.1 hr2.2 loc_dc loc_th
 have hMs:∀ k∈Ss,k∈([]:List Nat)∨w0.heap.size≤k:=fun k hk=>.inr (hNw0.2 k (List.mem_append.2 (.inl hk)))
 have hMl:∀ k∈Sl,k∈([]:List Nat)∨w0.heap.size≤k:=fun k hk=>.inr (hNw0.2 k (List.mem_append.2 (.inr (List.mem_append.2 (.inl hk)))))
 have hMt:∀ k∈St_,k∈([]:List Nat)∨w0.heap.size≤k:=fun k hk=>.inr (hNw0.2 k (List.mem_append.2 (.inr (List.mem_append.2 (.inr hk)))))
 iterate 2 refine ym ?_
 refine vy (ybd (.agg #[_,_]) [(0,_),(1,_)]) ?_
 refine vc_e (e_al (l:=[_,_,_]) st rfl rfl zeroValue26 rfl ?_)
 intro b10 w hb10 st
 refine vc_e (e_al (l:=[_,_]) st rfl rfl zeroValue98 rfl ?_)
 intro b11 w hb11 st
 refine vc_e (ests st 1 [_,_,_] sizeOf26 ?_)
 intro w st;dsimp only [setNth,wr] at st
 refine vc_e (ests st 0 [_,_] sizeOf98 ?_)
 intro w st;dsimp only [setNth,wr] at st
 refine et (vk3 6 10 11 (sr ?_))
 replace st:=st.pick [4,2,3,1,0,6] rfl (by decide)
 refine yla st 4 [_,_] isAgg98 sizeOf98 ?_
 refine vy (y_fa0 rfl underlying26 rfl rfl sizeOf23 rfl) ?_
 refine yl st 3 isAgg23 ?_
 refine vc_e (e_call [_,_] rfl rfl call30 rfl (rndecls_any old new p.shared hn1 qs ks Ss _ (st.res (i:=0) rfl).1 hSs) ?_)
 rintro _ w ⟨hq,cw⟩
 replace st:=st.within (ψ:=fun w=>DcRQ w qs ks (p.shared.map (trD (rnF old new) idA)) Ss) cw (fun k hk=>hk) hMs hq loc_dc
 refine et (vk3 6 10 11 (sr ?_))
 replace st:=st.pick [1,0,2,3,4,5] rfl (by decide)
 refine yla st 4 [_,_] isAgg98 sizeOf98 ?_
 refine yfz 1 underlying26 sizeOf23 ?_
 refine yl st 3 isAgg23 ?_
 refine vc_e (e_call [_,_] rfl rfl call30 rfl (rndecls_any old new p.locks hn2 ql kl Sl _ (st.res (i:=0) rfl).1 hSl) ?_)
 rintro _ w ⟨hq,cw⟩
 replace st:=st.within (ψ:=fun w=>DcRQ w ql kl (p.locks.map (trD (rnF old new) idA)) Sl) cw (fun k hk=>hk) hMl hq loc_dc
 refine et (vk3 6 10 11 (vc_seq (sr ?_)))
 refine yfz 2 underlying26 sizeOf24 ?_
 refine yl st 3 isAgg24 ?_
 refine vy (y_lensl rfl underlying24) ?_
 refine ym ?_
 refine et (vk5 6 10 11 53 54 (vc_block ?_))
 refine vc_loop (w0:=w0) (M:=[]) (fun (j:Nat)=>[(6,.pointer (some ⟨b6,0,none⟩)),(10,.pointer (some ⟨b10,0,none⟩)),(11,.pointer (some ⟨b11,0,none⟩)),(53,.int .i64 (p.threads.length:Int)),(54,.int .i64 (j:Int))]) (fun j=>[.tree St_ (fun w=>ThRQ w qt ktt (mixL (trT (rnF old new) idA) p.threads j) St_),.blk b10 (.cells [.slice qs p.shared.length ks,.slice ql p.locks.length kl,.slice qt p.threads.length ktt].toArray 26 (0,0)),.blk b11 (.cells [str old,str new].toArray 98 (0,0)),(.tree Ss (fun w=>DcRQ w qs ks (p.shared.map (trD (rnF old new) idA)) Ss)),(.tree Sl (fun w=>DcRQ w ql kl (p.locks.map (trD (rnF old new) idA)) Sl)),.blk b6 (.cells [.slice none 0 0,.slice none 0 0,.slice none 0 0].toArray 26 (0,0))]) (fun j _=>j≤p.threads.length) (fun j=>p.threads.length - j) 0 ⟨rfl,rfl,rfl,rfl,rfl,trivial⟩ (by simpa only [mixL_zero] using st.pick [2,3,4,1,0,5] rfl (by decide)) (by omega) ?_
 clear st
 rintro j w hj st
 refine sr ?_
 refine vy (y_lss rfl rfl) ?_
 refine et (vk6 6 10 11 53 54 55 (vc_seq ?_))
 refine vif ?_ ?_
 ·intro hc55
  try simp only [dn] at hc55
  obtain⟨x,hx⟩:∃ x,p.threads[j]?=some x:=⟨_,List.getElem?_eq_getElem (by omega)⟩
  have hkx:=hok.2.2.2 j x hx
  have hm0:=mixL_get (f:=trT (rnF old new) idA) hx
  have hm1:((mixL (trT (rnF old new) idA) p.threads j).set j (x.setNm ((rnF old new) x.nm)))[j]?=some (x.setNm ((rnF old new) x.nm)):=set_get hm0
  have hm2:((mixL (trT (rnF old new) idA) p.threads j).set j ((x.setNm ((rnF old new) x.nm)).setLocals (x.locals.map (trD (rnF old new) idA))))[j]?=some ((x.setNm ((rnF old new) x.nm)).setLocals (x.locals.map (trD (rnF old new) idA))):=set_get hm0
  have h12:((mixL (trT (rnF old new) idA) p.threads j).set j (x.setNm ((rnF old new) x.nm))).set j ((x.setNm ((rnF old new) x.nm)).setLocals (x.locals.map (trD (rnF old new) idA)))=((mixL (trT (rnF old new) idA) p.threads j).set j ((x.setNm ((rnF old new) x.nm)).setLocals (x.locals.map (trD (rnF old new) idA)))):=List.set_set ..
  have h23:((mixL (trT (rnF old new) idA) p.threads j).set j ((x.setNm ((rnF old new) x.nm)).setLocals (x.locals.map (trD (rnF old new) idA)))).set j (((x.setNm ((rnF old new) x.nm)).setLocals (x.locals.map (trD (rnF old new) idA))).setBody (trSs (rnF old new) idA x.body))=mixL (trT (rnF old new) idA) p.threads (j+1):=by rw [List.set_set,t1_end];exact mixL_step hx
  have stK:=st
  obtain⟨b,_,_,_,_,_,_,rfl,hrow,-⟩:=thR_focus (st.res (i:=0) rfl).1 hSt hm0
  have st:=stK
  clear stK
  have hbS:=hrow.mem
  have hat:∀ w,ThRQ w (some ⟨b,0,none⟩) ktt (mixL (trT (rnF old new) idA) p.threads j) St_→w.cell? ⟨b,j*4,none⟩=some (str x.nm)∧w.frozen? ⟨b,j*4,none⟩=false∧ThRQ (w.setCell ⟨b,j*4,none⟩ (str ((rnF old new) x.nm))) (some ⟨b,0,none⟩) ktt ((mixL (trT (rnF old new) idA) p.threads j).set j (x.setNm ((rnF old new) x.nm))) St_:=fun w h=>by
   obtain⟨b1,o1,c1,o2,c2,S1,S2,hb1,r1,k1,-,-,-,-,-,-,s1,-⟩:=thR_focus h hSt hm0
   simp only [Option.some.injEq,Addr.mk.injEq,and_true] at hb1
   subst hb1
   exact⟨k1 0 _ rfl,r1.fz _,s1 _⟩
  have hsame:x.nm≠old→∀ w,ThRQ w (some ⟨b,0,none⟩) ktt (mixL (trT (rnF old new) idA) p.threads j) St_→ThRQ w (some ⟨b,0,none⟩) ktt ((mixL (trT (rnF old new) idA) p.threads j).set j (x.setNm ((rnF old new) x.nm))) St_:=fun hne w h=>by
   rw [rn_old hne,t_nm,set_same hm0];exact h
  refine kt (vk5 6 10 11 53 54 (vc_seq (vc_block (sr ?_))))
  refine ym ?_
  refine ya ?_
  refine et (vk6 6 10 11 12 53 54 (sr ?_))
  refine yfz 2 underlying26 sizeOf24 ?_
  refine yl st 1 isAgg24 ?_
  refine ym ?_
  refine vy (y_ia0 (k:=j) rfl rfl underlying24 sizeOf50 rfl (by omega)) ?_
  refine ya ?_
  refine et (vk6 6 10 11 13 53 54 (vc_seq ?_))
  refine vdr Tryz.mixed [Yt 0,Yt 1,Yt 2,Yt 3,Nt 4] [.blk b11 (.cells [str old,str new].toArray 98 (0,0))] st ?_
  clear st;intro w st hS
  refine vp_take rfl rfl rfl hS (fun w st=>y_lda (vs:=[_,_]) st 0 rfl isAgg98 sizeOf98 rfl rfl) ?_
  refine pm hS ?_
  refine pnk hS ?_
  refine pf0 hS underlying50 sizeOf9 ?_
  refine vp_do rfl (e_call [_,_] rfl rfl call31 rfl (rnput_any old new x.nm St_ (fun w=>ThRQ w (some ⟨b,0,none⟩) ktt (mixL (trT (rnF old new) idA) p.threads j) St_) (fun w=>ThRQ w (some ⟨b,0,none⟩) ktt ((mixL (trT (rnF old new) idA) p.threads j).set j (x.setNm ((rnF old new) x.nm))) St_) b (j*4) _ (st.res (i:=0) rfl).1 (st.res (i:=0) rfl).2.1 loc_th loc_th hbS hat hsame) ?_)
  rintro _ w ⟨hψ,cw⟩
  replace st:=st.within (ψ:=fun w=>ThRQ w (some ⟨b,0,none⟩) ktt ((mixL (trT (rnF old new) idA) p.threads j).set j (x.setNm ((rnF old new) x.nm))) St_) cw (fun k hk=>hk) hMt (hψ) loc_th
  refine vp_next st.dr ?_;intro hS
  refine vp_end (vq_then (vk6 6 10 11 13 53 54 (vc_seq ?_)))
  refine vdr Tryz.mixed [Yt 0,Yt 1,Yt 2,Yt 3,Nt 4,Nt 5] [.blk b11 (.cells [str old,str new].toArray 98 (0,0))] st ?_
  clear st;intro w st hS
  refine vp_take rfl rfl rfl hS (fun w st=>y_lda (vs:=[_,_]) st 0 rfl isAgg98 sizeOf98 rfl rfl) ?_
  refine pm hS ?_
  refine pnk hS ?_
  refine vp_take rfl rfl rfl hS (fun w st=>y_fa (k:=1) rfl underlying50 rfl rfl sizeOf23 rfl) ?_
  obtain⟨b4,ol4,cl4,ob4,cb4,Sl4,Sb4,hb4,r4,k4,ql4,qb4,nl4,nb4,ul4,ub4,z1,z2,pl4,pb4⟩:=thR_focus (st.res (i:=0) rfl).1 hSt hm1
  simp only [Option.some.injEq,Addr.mk.injEq,and_true] at hb4
  subst hb4
  refine vp_do rfl (e_run rfl rfl (y_ldc rfl isAgg23 (k4 1 _ rfl)) ?_)
  refine vp_next st.dr ?_;intro hS
  refine vp_do rfl (e_call [_,_] rfl rfl call30 rfl (rndecls_any old new x.locals hkx.1.1 ol4 cl4 Sl4 _ ql4 nl4) ?_)
  rintro _ w ⟨hq,hc⟩
  replace st:=st.within (ψ:=fun w=>ThRQ w (some ⟨b,0,none⟩) ktt ((mixL (trT (rnF old new) idA) p.threads j).set j ((x.setNm ((rnF old new) x.nm)).setLocals (x.locals.map (trD (rnF old new) idA)))) St_) hc ul4 hMt (h12▸pl4 w (x.locals.map (trD (rnF old new) idA)) (by(rw [List.length_map];rfl)) hq hc) loc_th
  refine vp_next st.dr ?_;intro hS
  refine vp_end (vq_then (vk6 6 10 11 13 53 54 ?_))
  refine vdr Tryz.mixed [Yt 0,Yt 1,Yt 2,Yt 3,Nt 4,Nt 5] [.blk b11 (.cells [str old,str new].toArray 98 (0,0))] st ?_
  clear st;intro w st hS
  refine vp_take rfl rfl rfl hS (fun w st=>y_lda (vs:=[_,_]) st 0 rfl isAgg98 sizeOf98 rfl rfl) ?_
  refine pm hS ?_
  refine pnk hS ?_
  refine vp_take rfl rfl rfl hS (fun w st=>y_fa (k:=2) rfl underlying50 rfl rfl sizeOf48 rfl) ?_
  obtain⟨b5,ol5,cl5,ob5,cb5,Sl5,Sb5,hb5,r5,k5,ql5,qb5,nl5,nb5,ul5,ub5,z1,z2,pl5,pb5⟩:=thR_focus (st.res (i:=0) rfl).1 hSt hm2
  simp only [Option.some.injEq,Addr.mk.injEq,and_true] at hb5
  subst hb5
  refine vp_do rfl (e_run rfl rfl (y_ldc rfl isAgg48 (k5 2 _ rfl)) ?_)
  refine vp_next st.dr ?_;intro hS
  refine vp_do rfl (e_call [_,_] rfl rfl call32 rfl (rnstmts_any old new _ x.body rfl hkx.2.1 ob5 cb5 Sb5 _ qb5 nb5) ?_)
  rintro _ w ⟨hq,hc⟩
  replace st:=st.within (ψ:=fun w=>ThRQ w (some ⟨b,0,none⟩) ktt (mixL (trT (rnF old new) idA) p.threads (j+1)) St_) hc ub5 hMt (h23▸pb5 w (trSs (rnF old new) idA x.body) (by(rw [trSs_len];rfl)) hq hc) loc_th
  refine vp_next st.dr ?_;intro hS
  refine vp_end (vq_block (vq_then (vk5 6 10 11 53 54 (vc_region ?_))))
  refine vy (y_add rfl rfl (by omega:_=((j+1:Nat):Int)) (by omega) (by omega)) ?_
  refine ym ?_
  refine vc_end ?_
  refine vq_again (j+1)  ⟨rfl,rfl,rfl,rfl,rfl,trivial⟩ st ?_ ?_
  ·omega
  omega
 intro hc55
 try simp only [dn] at hc55
 obtain rfl:j=p.threads.length:=by omega
 rw [mixL_all] at st
 refine vc_exit (vq_then_exit (vq_then_exit (vq_block_exit (vq_then (vk2 6 10 (sr ?_))))))
 refine yla st 1 [_,_,_] isAgg26 sizeOf26 ?_
 refine vc_e (ests st 5 [_,_,_] sizeOf26 ?_)
 intro w st;dsimp only [setNth,wr] at st
 refine ya ?_
 refine et (vk2 6 7 (vc_ret ?_))
 refine vq_ret2 st (.inl rfl) results11 (by exact .cell 5 rfl rfl isAgg26 sizeOf26) (.tmp rfl) ?_
 refine⟨_,rfl,?_⟩
 (exact⟨st.chg,.inr ⟨hnmN,hstN,hstO,_,_,rfl,⟨qs,ks,ql,kl,qt,ktt,Ss,Sl,St_,by simp [trP],(st.res (i:=3) rfl).1,(st.res (i:=4) rfl).1,(st.res (i:=0) rfl).1,rfl⟩,hNw0⟩⟩)
end Go.Proofs.YtkhpdpenlnhbiaaGreatDoor
/- How many statements and expressions a tree has,and how deep it lies. -/
namespace Sx
def mx {α:Type} (f:α→Nat):List α→Nat
  | []=>1
  | x::r=>max (f x) (mx f r)
mutual
def stS:Sm→Nat
  | .mk _ _ _ _ body els _=>1+stSs body+stSs els
termination_by structural e=>e
def stSs:List Sm→Nat
  | []=>0
  | e::r=>stS e+stSs r
termination_by structural l=>l
end
end Sx
namespace Sx
end Sx
/- Turned names and places change no count and no depth;how great a renamed tree is. -/
namespace LexS
open Sx
section
variable {g:List UInt8→List UInt8} {h:Int→Int}
section
mutual
theorem szE_tr (hg:∀ s,(g s).length≤s.length+32):∀ e:Ex,szE (trE g h e)≤65*szE e
  | .mk k op wd nm kids a=>by have:=szEs_tr hg kids;have:=hg nm;simp only [trE,szE];omega
theorem szEs_tr (hg:∀ s,(g s).length≤s.length+32):∀ l:List Ex,szEs (trEs g h l)≤65*szEs l
  | []=>by simp [trEs,szEs]
  | e::r=>by have:=szE_tr hg e;have:=szEs_tr hg r;simp only [trEs,szEs];omega
end
mutual
theorem szS_tr (hg:∀ s,(g s).length≤s.length+32):∀ s:Sm,szS (trS g h s)≤65*szS s
  | .mk k nm o e body els a=>by have:=szEs_tr hg (h:=h) e;have:=szSs_tr hg body;have:=szSs_tr hg els;have:=hg nm;have:=hg o;simp only [trS,szS];omega
theorem szSs_tr (hg:∀ s,(g s).length≤s.length+32):∀ l:List Sm,szSs (trSs g h l)≤65*szSs l
  | []=>by simp [trSs,szSs]
  | e::r=>by have:=szS_tr hg e;have:=szSs_tr hg r;simp only [trSs,szSs];omega
end
theorem szDs_tr (hg:∀ s,(g s).length≤s.length+32):∀ l:List Dc,szDs (l.map (trD g h))≤65*szDs l
  | []=>by simp [szDs]
  | d::r=>by have:=hg d.nm;have:=szDs_tr hg r;simp only [List.map_cons,szDs,trD];omega
theorem szTs_tr (hg:∀ s,(g s).length≤s.length+32):∀ l:List Th,szTs (l.map (trT g h))≤65*szTs l
  | []=>by simp [szTs]
  | t::r=>by have:=hg t.nm;have:=szTs_tr hg r;have:=szDs_tr hg (h:=h) t.locals;have:=szSs_tr hg (h:=h) t.body;simp only [List.map_cons,szTs,trT];omega
theorem szP_tr (hg:∀ s,(g s).length≤s.length+32) (p:Pg):szP (trP g h p)≤65*szP p:=by
  have:=szDs_tr hg (h:=h) p.shared
  have:=szDs_tr hg (h:=h) p.locks
  have:=szTs_tr hg (h:=h) p.threads
  simp only [szP,trP];omega
end
end
end LexS
