/- A part of the proof: contracts of functions and plain laws; each theorem says its own conditions. -/
import Derived.Test.YtkhpdpenlnhbiaaGreatDoorTopLoweredK7
import Derived.Test.YtkhpdpenlnhbiaaGreatDoorTopLoweredK44
import Derived.Test.YtkhpdpenlnhbiaaGreatDoorTopLoweredK18
namespace Go.Proofs.YtkhpdpenlnhbiaaGreatDoor
open Go.RowKit Sx LexS ParS _root_.Go.Proofs.Tryz
set_option linter.unusedVariables false
set_option linter.unusedSimpArgs false
theorem gr_cell {w:World} {p:Pg} {D:List Dg} {o1 o2:Option Addr} {gb go:Nat} {B:List Nat} (h:UnW p D o1 o2 (some ⟨gb,go,none⟩) B w) {j:Nat} {d:Dg} (hd:D[j]?=some d) (i:Nat) {v:Value} (hv:(gcell d)[i]?=some v):w.cell? ⟨gb,go+j*4+i,none⟩=some v:=by
 obtain⟨b,off,e,hc⟩:=GrRow.at h.2.2 (Nat.lt_of_le_of_lt (Nat.zero_le _) (List.getElem?_eq_some_iff.1 hd).1)
 simp only [Option.some.injEq,Addr.mk.injEq,and_true] at e
 obtain⟨rfl,rfl⟩:=e
 exact hc j d hd i v hv
theorem th_cell {w:World} {p:Pg} {os ol:Option Addr} {tb to_:Nat} {cs cl ct:Nat} {B:List Nat} (h:PgQ w p [.slice os p.shared.length cs,.slice ol p.locks.length cl,.slice (some ⟨tb,to_,none⟩) p.threads.length ct] B) {j:Nat} {t:Th} (ht:p.threads[j]?=some t):w.cell? ⟨tb,to_+j*4,none⟩=some (str t.nm):=by
 obtain⟨b,off,e,-,-,hg⟩:=ThRow.at (pg_rows h).2.2 (Nat.lt_of_le_of_lt (Nat.zero_le _) (List.getElem?_eq_some_iff.1 ht).1)
 simp only [Option.some.injEq,Addr.mk.injEq,and_true] at e
 obtain⟨rfl,rfl⟩:=e
 obtain⟨_,_,_,_,-,-,hc⟩:=hg j t ht
 exact hc 0 _ rfl
theorem low_q {p:Pg} {D:List Dg} {old new:Wd} {w w':World} {v:Value} (hck:ckP p=true) (hD:GrsOf p p.threads D) (hn:NoP new p) (h:LowP (trP (rnF old new) idA p) w v w'):Chg [] w w'∧∃ D2 uv2,v=.tuple #[uv2,.int .i64 0]∧GrsOf (trP (rnF old new) idA p) (trP (rnF old new) idA p).threads D2∧UnV w' (w.heap.size≤·) (trP (rnF old new) idA p) D2 uv2:=by
 obtain⟨cw,h⟩:=h
 refine⟨cw,?_⟩
 rcases h with ⟨h1,-⟩|⟨-,⟨t',ht',h2⟩,-⟩|⟨-,D2,uv2,h3⟩
 ·rw [ckP_ren hn hck] at h1
  cases h1
 ·obtain⟨t,ht,rfl⟩:=List.mem_map.1 ht'
  rw [ren_gr hn hck ht] at h2
  obtain⟨j,hj⟩:=List.mem_iff_getElem?.1 ht
  obtain⟨d,-,-,-,h4⟩:=hD.2 j t hj
  rw [h4] at h2
  cases h2
 ·exact⟨D2,uv2,h3⟩
theorem grs_q {p:Pg} {D D2:List Dg} {old new:Wd} (hck:ckP p=true) (hn:NoP new p) (hD:GrsOf p p.threads D) (hD2:GrsOf (trP (rnF old new) idA p) (trP (rnF old new) idA p).threads D2):D2.length=D.length∧∀ (j:Nat) d d2,D[j]?=some d→D2[j]?=some d2→d2.N=d.N:=by
 refine⟨by rw [hD.1,hD2.1];simp [trP],fun j d d2 h1 h2=>?_⟩
 obtain⟨t,t1,-,-,t2⟩:=grs_get hD h1
 obtain⟨u,u1,-,-,u2⟩:=grs_get hD2 h2
 have hu:u=trT (rnF old new) idA t:=by
  have:(trP (rnF old new) idA p).threads[j]?=some (trT (rnF old new) idA t):=by
   show (p.threads.map _)[j]?=_
   rw [List.getElem?_map,t1];rfl
  rw [this] at u1
  exact(Option.some.inj u1).symm
 subst hu
 rw [ren_gr hn hck (List.mem_of_getElem? t1),t2] at u2
 simp only [Option.some.injEq,Prod.mk.injEq] at u2
 exact u2.1.symm
set_option maxHeartbeats 4000000 in
theorem lawTopLowered (s old new:List UInt8) (w:World) (hsg:SigAt 1 w):Ret Tryz.prog 3 [str s,str old,str new] w fun v w'=>v=.bool true∧Chg [] w w':=by
 refine ret_of [_,_,_] func3 rfl ntmps3 rfl ?_
 have st:=St.init w []
 obtain⟨w0,rfl⟩:∃ w0,w0=w:=⟨_,rfl⟩
 obtain⟨p,e1,fp,fr0,hR⟩:∃ p e1 fp fr,parseRes s=(p,e1,fp,fr):=⟨_,_,_,_,rfl⟩
 refine sr ?_
 refine ya ?_
 refine et (vk3 0 1 2 (vc_seq (sr ?_)))
 refine vc_e (e_call [] rfl rfl call4 rfl (tbegins_any _) ?_)
 rintro _ w ⟨rfl,cw⟩
 replace st:=st.call0 cw
 refine vy (y_not rfl) ?_
 refine et (vk4 0 1 2 24 ?_)
 refine vif ?_ ?_
 ·intro hc24
  exfalso;revert hc24;decide
 intro hc24
 try simp only [dn] at hc24
 refine kt (vk3 0 1 2 (sr ?_))
 refine ym ?_
 refine vc_e (e_call [_] rfl rfl call5 rfl (Pq.parse_any s _ (SigAt.kept hsg st.chg (by simp))) ?_)
 rintro _ w h
 rw [Pq.ParsePost,hR] at h
 dsimp only at h
 obtain⟨cw,_,⟨os,ol,ot,cs,cl,ct,Sq,rfl,hQ,hNw⟩,rfl⟩:=h
 replace st:St w0 [] (.tree Sq (fun w=>PgQ w p [.slice os p.shared.length cs,.slice ol p.locks.length cl,.slice ot p.threads.length ct] Sq)::_) w:=st.pushR cw (Sx.holds_pg hQ) (hNw.le (Nat.le_refl _)).2
 refine ym ?_
 iterate 3 refine vy (y_ext rfl rfl) ?_
 refine vc_e (e_al (l:=[_,_,_]) st rfl rfl zeroValue26 rfl ?_)
 intro b7 w hb7 st
 refine vc_e (e_al (l:=[_,_]) st rfl rfl zeroValue29 rfl ?_)
 intro b9 w hb9 st
 refine vc_e (ests st 1 [_,_,_] sizeOf26 ?_)
 intro w st;dsimp only [setNth,wr] at st
 refine ya ?_
 refine vc_e (ests st 0 [_,_] sizeOf29 ?_)
 intro w st;dsimp only [setNth,wr] at st
 refine et (vk4 1 2 7 8 (vc_seq (sr ?_)))
 refine ym ?_
 refine vy (y_nei rfl rfl) ?_
 refine et (vk4 1 2 7 32 ?_)
 refine vif ?_ ?_
 ·intro hc32
  try simp only [dn] at hc32
  refine sr ?_
  refine ya ?_
  refine et (vk1 6 (vc_ret (vq_then_ret ?_)))
  refine vr1 st results3 ?_
  exact⟨rfl,st.chg⟩
 intro hc32
 try simp only [dn] at hc32
 have he1:e1=0:=by omega
 subst he1
 obtain⟨hpg,hok⟩:=parse_right hR
 have hsz:=parse_bd hR
 refine kt (vk3 1 2 7 (sr ?_))
 refine yla st 1 [_,_,_] isAgg26 sizeOf26 ?_
 refine vc_e (e_call [_] rfl rfl call6 rfl (ccheck_any p _ os ol ot cs cl ct hpg hok _ (pg_rows (st.res (i:=2) rfl).1).1 (pg_rows (st.res (i:=2) rfl).1).2.1 (pg_rows (st.res (i:=2) rfl).1).2.2 (Nat.le_refl _)) ?_)
 rintro _ w ⟨⟨f0,r0,rfl⟩,cw⟩
 replace st:=st.call0 cw
 refine ym ?_
 iterate 2 refine vy (y_ext rfl rfl) ?_
 refine vc_e (e_al (l:=[_,_]) st rfl rfl zeroValue29 rfl ?_)
 intro b11 w hb11 st
 refine ya ?_
 refine vc_e (ests st 0 [_,_] sizeOf29 ?_)
 intro w st;dsimp only [setNth,wr] at st
 refine et (vk4 1 2 7 10 (sr ?_))
 refine yla st 2 [_,_,_] isAgg26 sizeOf26 ?_
 refine vc_e (e_call [_] rfl rfl call7 rfl (llower_any p _ os ol ot cs cl ct hpg hok (by omega) _ (pg_rows (st.res (i:=3) rfl).1).1 (pg_rows (st.res (i:=3) rfl).1).2.1 (pg_rows (st.res (i:=3) rfl).1).2.2 (Nat.le_refl _)) ?_)
 rintro _ w ⟨cw,hL⟩
 rcases hL with ⟨hck,rfl⟩|⟨hck,hno,rfl⟩|⟨hck,D,uv,rfl,hD,hU⟩
 ·replace st:=st.call0 cw
  refine ym ?_
  iterate 2 refine vy (y_ext rfl rfl) ?_
  refine vc_e (e_al (l:=[_,_,_]) st rfl rfl zeroValue36 rfl ?_)
  intro b12 w hb12 st
  refine vc_e (ests st 0 [_,_,_] sizeOf36 ?_)
  intro w st;dsimp only [setNth,wr] at st
  refine ya ?_
  refine et (vk6 1 2 7 8 10 12 (vc_seq (sr ?_)))
  refine ym ?_
  refine vy (y_nei rfl rfl) ?_
  refine et (vk7 1 2 7 8 10 12 44 ?_)
  refine vif ?_ ?_
  ·intro hc44
   try simp only [dn] at hc44
   refine sr ?_
   iterate 2 refine ym ?_
   refine vy (y_eqi rfl rfl) ?_
   refine vmb ?_ ?_
   intro hg48
   try simp only [dn] at hg48
   iterate 2 refine vsk ?_
   refine ypt ?_
   rotate_left
   intro hg48
   try simp only [dn] at hg48
   refine ym ?_
   refine vy (y_eqi rfl rfl) ?_
   refine ypf ?_
   all_goals
    refine ya ?_
    refine et (vk1 6 (vc_ret (vq_then_ret ?_)))
    refine vr1 st results3 ?_
    first
    | exact⟨rfl,st.chg⟩
    | (refine⟨?_,st.chg⟩;simp_all;done)
  intro hc44
  exfalso;revert hc44;decide
 ·replace st:=st.call0 cw
  refine ym ?_
  iterate 2 refine vy (y_ext rfl rfl) ?_
  refine vc_e (e_al (l:=[_,_,_]) st rfl rfl zeroValue36 rfl ?_)
  intro b12 w hb12 st
  refine vc_e (ests st 0 [_,_,_] sizeOf36 ?_)
  intro w st;dsimp only [setNth,wr] at st
  refine ya ?_
  refine et (vk6 1 2 7 8 10 12 (vc_seq (sr ?_)))
  refine ym ?_
  refine vy (y_nei rfl rfl) ?_
  refine et (vk7 1 2 7 8 10 12 44 ?_)
  refine vif ?_ ?_
  ·intro hc44
   try simp only [dn] at hc44
   refine sr ?_
   iterate 2 refine ym ?_
   refine vy (y_eqi rfl rfl) ?_
   refine vmb ?_ ?_
   intro hg48
   try simp only [dn] at hg48
   iterate 2 refine vsk ?_
   refine ypt ?_
   rotate_left
   intro hg48
   try simp only [dn] at hg48
   refine ym ?_
   refine vy (y_eqi rfl rfl) ?_
   refine ypf ?_
   all_goals
    refine ya ?_
    refine et (vk1 6 (vc_ret (vq_then_ret ?_)))
    refine vr1 st results3 ?_
    exact⟨rfl,st.chg⟩
  intro hc44
  exfalso;revert hc44;decide
 ·obtain⟨o1,c1,o2,c2,og,cg,BU,rfl,hBU,hUW⟩:=un_blocks hU
  replace st:St w0 [] (.tree BU (UnW p D o1 o2 og BU)::_) w:=st.pushR cw (un_holds hUW (fun b hb=>(hBU b hb).2)) (fun b hb=>(hBU b hb).1)
  refine ym ?_
  iterate 2 refine vy (y_ext rfl rfl) ?_
  refine vc_e (e_al (l:=[_,_,_]) st rfl rfl zeroValue36 rfl ?_)
  intro b12 w hb12 st
  refine vc_e (ests st 0 [_,_,_] sizeOf36 ?_)
  intro w st;dsimp only [setNth,wr] at st
  refine ya ?_
  refine et (vk6 1 2 7 8 10 12 (vc_seq (sr ?_)))
  refine ym ?_
  refine vy (y_nei rfl rfl) ?_
  refine et (vk7 1 2 7 8 10 12 44 ?_)
  refine vif ?_ ?_
  ·intro hc44
   exfalso;revert hc44;decide
  intro hc44
  try simp only [dn] at hc44
  refine kt (vk5 1 2 7 10 12 (sr ?_))
  refine yla st 0 [_,_,_] isAgg36 sizeOf36 ?_
  refine vc_e (e_call [_] rfl rfl call8 rfl (gcheck_any (·∈BU) p D (unOk hpg hck hD) _ _ (UnW.v (st.res (i:=1) rfl).1 c1 c2 cg)) ?_)
  rintro _ w ⟨rfl,cw⟩
  replace st:=st.call0 cw
  refine ym ?_
  iterate 3 refine vy (y_ext rfl rfl) ?_
  iterate 3 refine ya ?_
  refine et (vk6 1 2 7 10 12 13 (vc_seq (sr ?_)))
  refine ym ?_
  refine vy (y_nei rfl rfl) ?_
  refine vmb ?_ ?_
  ·intro hg60
   exact absurd hg60 (by simp [hck])
  intro hg60
  try simp only [dn] at hg60
  refine ym ?_
  refine vy (y_nei rfl rfl) ?_
  refine ypf ?_
  refine vmb ?_ ?_
  ·intro hg64
   exfalso;revert hg64;decide
  intro hg64
  try simp only [dn] at hg64
  refine yfz 2 underlying36 sizeOf34 ?_
  refine yl st 0 isAgg34 ?_
  refine vy (y_lensl rfl underlying34) ?_
  refine yfz 2 underlying26 sizeOf24 ?_
  refine yl st 4 isAgg24 ?_
  refine vy (y_lensl rfl underlying24) ?_
  refine vy (y_nei rfl rfl) ?_
  refine ypf ?_
  refine et (vk5 1 2 7 12 72 ?_)
  refine vif ?_ ?_
  ·intro hc72
   exact absurd hc72 (by simp [hD.1])
  intro hc72
  try simp only [dn] at hc72
  have hD8:=(unOk hpg hck hD).lt
  refine kt (vk4 1 2 7 12 (vc_seq (sr ?_)))
  refine yfz 2 underlying36 sizeOf34 ?_
  refine yl st 0 isAgg34 ?_
  refine vy (y_lensl rfl underlying34) ?_
  refine ym ?_
  refine et (vk7 1 2 7 12 74 75 76 (vc_block ?_))
  refine vc_loop (w0:=w0) (M:=[]) (fun (j:Nat)=>[(1,str old),(2,str new),(7,.pointer (some ⟨b7,0,none⟩)),(12,.pointer (some ⟨b12,0,none⟩)),(74,.slice og D.length cg),(75,.int .i64 (D.length:Int)),(76,.int .i64 (j:Int))]) (fun j=>[.tree BU (UnW p D o1 o2 og BU),.blk b12 (.cells [.slice o1 p.shared.length c1,.slice o2 p.locks.length c2,.slice og D.length cg].toArray 36 (0,0)),.blk b7 (.cells [.slice os p.shared.length cs,.slice ol p.locks.length cl,.slice ot p.threads.length ct].toArray 26 (0,0)),.tree Sq (fun w=>PgQ w p [.slice os p.shared.length cs,.slice ol p.locks.length cl,.slice ot p.threads.length ct] Sq)]) (fun j w'=>j≤D.length) (fun j=>D.length - j) 0 ⟨rfl,rfl,rfl,rfl,rfl,rfl,rfl,trivial⟩ (st.pick [1,0,4,5] rfl (by decide)) (by simp) ?_
  clear st
  intro j w hj st
  refine sr ?_
  refine vy (y_lss rfl rfl) ?_
  refine et (vk8 1 2 7 12 74 75 76 77 (vc_seq ?_))
  refine vif ?_ ?_
  ·intro hc77
   try simp only [dn] at hc77
   have hj2:j<D.length:=by omega
   obtain⟨d,hd⟩:∃ d,D[j]?=some d:=⟨_,List.getElem?_eq_getElem hj2⟩
   have hdm:=List.mem_of_getElem? hd
   obtain⟨t,ht,hnm,hlc,hgt⟩:=grs_get hD hd
   obtain⟨lab,hGr⟩:=(unOk hpg hck hD).ok d hdm
   have hle:=hGr.le
   have hls:=(unOk hpg hck hD).ls
   have hcT:ckT (nmL p.shared) (nmL p.locks) t=true:=by
    have h:=hck
    rw [ckP_eq,Bool.and_eq_true] at h
    exact ckTs_get h.2 t (List.mem_of_getElem? ht)
   have hthk:thOk t=true:=by
    have h:(p.shared.all (dcOk true)=true∧p.locks.all (dcOk false)=true)∧p.threads.all thOk=true:=by simpa [pgOk] using hpg
    exact List.all_eq_true.1 h.2 t (List.mem_of_getElem? ht)
   obtain⟨⟨tc1,tc2⟩,tc3,tc4⟩:=touch_ok (thOk_body hthk) hcT hgt
   have hil1:=ix_len (p:=p) (t:=t) (rdSs t.body)
   have hil2:=ix_len (p:=p) (t:=t) (wrSs t.body)
   have stK:=st
   obtain⟨gb,go,rfl,-⟩:=GrRow.at (st.res (i:=0) rfl).1.2.2 (by omega)
   obtain⟨tbb,tbo,rfl,-⟩:=ThRow.at (pg_rows (st.res (i:=3) rfl).1).2.2 (Nat.lt_of_le_of_lt (Nat.zero_le _) (List.getElem?_eq_some_iff.1 ht).1)
   have st:=stK
   clear stK
   refine kt (vk7 1 2 7 12 74 75 76 (vc_seq (vc_block (sr ?_))))
   refine ym ?_
   refine vy (y_ia (k:=j) rfl rfl underlying34 sizeOf43 rfl (by omega)) ?_
   refine vy (y_ldca (gcell d) rfl isAgg43 sizeOf43 rfl (fun i v hi=>gr_cell (st.res (i:=0) rfl).1 hd i hi)) ?_
   refine vc_e (e_al (l:=[_,_,_,_]) st rfl rfl zeroValue43 rfl ?_)
   intro b17 w hb17 st
   refine ya ?_
   refine vc_e (ests st 0 [_,_,_,_] sizeOf43 ?_)
   intro w st;dsimp only [setNth,wr] at st
   refine et (vk9 1 2 7 12 16 17 74 75 76 (sr ?_))
   refine yla st 3 [_,_,_] isAgg26 sizeOf26 ?_
   refine ym ?_
   refine vc_e (e_call [_,_] rfl rfl call9 rfl (touches_any p _ os ol (some ⟨tbb,tbo,none⟩) cs cl ct hpg hok hck j t ht _ (pg_rows (st.res (i:=4) rfl).1).1 (pg_rows (st.res (i:=4) rfl).1).2.1 (pg_rows (st.res (i:=4) rfl).1).2.2 (Nat.le_refl _)) ?_)
   rintro _ w ⟨⟨p1,k1,p2,k2,rfl,hw1,hw2⟩,cw⟩
   replace st:=st.pushR cw (two_holds hw1 hw2) (two_fresh hw1 hw2)
   refine ym ?_
   iterate 2 refine vy (y_ext rfl rfl) ?_
   iterate 2 refine ya ?_
   refine et (vc_keep [(1,_),(2,_),(7,_),(12,_),(16,_),(17,_),(18,_),(19,_),(74,_),(75,_),(76,_)] ⟨rfl,rfl,rfl,rfl,rfl,rfl,rfl,rfl,rfl,rfl,rfl,trivial⟩ (vc_seq ?_))
   refine vdr0 Tryz.mixed [Yt 0,Yt 1,Nt 2,Yt 3,Yt 4,Yt 5,Yt 6,Nt 7,Yt 8,Yt 9,Yt 10,Yt 11,Yt 12,Yt 13,Yt 14,Yt 15,Yt 16,Yt 17,Yt 18,Yt 19,Yt 20] st ?_
   clear st;intro w st hS
   refine vp_take rfl rfl rfl hS (fun w st=>y_lda (vs:=[_,_,_,_]) st 1 rfl isAgg43 sizeOf43 rfl rfl) ?_
   refine pm hS ?_
   refine vp_do rfl (e_call [_,_,_] rfl rfl call10 rfl (tnamed_any false (·∈BU) d.lc d.s d.zn k1 d.on p1 d.nm d.N _ hle (by omega) tc1 tc2 _ ((st.res (i:=2) rfl).1.2.2.2 d hdm) (st.res (i:=0) rfl).1.1) ?_)
   rintro _ w ⟨rfl,cw⟩
   replace st:=st.call0 cw
   refine vp_next (by exact st) ?_;intro hS
   refine vp_take rfl rfl rfl hS (fun w st=>y_not rfl) ?_
   refine vp_part rfl rfl rfl hS rfl ?_ ?_
   ·intro hg91
    exfalso;revert hg91;decide
   intro hg91
   try simp only [dn] at hg91
   refine vp_take rfl rfl rfl hS (fun w st=>y_lda (vs:=[_,_,_,_]) st 1 rfl isAgg43 sizeOf43 rfl rfl) ?_
   refine pm hS ?_
   refine vp_do rfl (e_call [_,_,_] rfl rfl call10 rfl (tnamed_any true (·∈BU) d.lc d.s d.zn k2 d.on p2 d.nm d.N _ hle (by omega) tc3 tc4 _ ((st.res (i:=2) rfl).1.2.2.2 d hdm) (st.res (i:=0) rfl).1.2) ?_)
   rintro _ w ⟨rfl,cw⟩
   replace st:=st.call0 cw
   refine vp_next (by exact st) ?_;intro hS
   refine vp_take rfl rfl rfl hS (fun w st=>y_not rfl) ?_
   refine vp_take rfl rfl rfl hS (fun w st=>y_pickf rfl rfl) ?_
   refine vp_part rfl rfl rfl hS rfl ?_ ?_
   ·intro hg97
    exfalso;revert hg97;decide
   intro hg97
   try simp only [dn] at hg97
   refine pf0 hS underlying43 sizeOf9 ?_
   refine pld hS 1 isAgg9 ?_
   refine pfz hS 2 underlying26 sizeOf24 ?_
   refine pld hS 4 isAgg24 ?_
   refine pm hS ?_
   refine vp_take rfl rfl rfl hS (fun w st=>y_ia (k:=j) rfl rfl underlying24 sizeOf50 rfl (by omega)) ?_
   refine pf0 hS underlying50 sizeOf9 ?_
   refine vp_take rfl rfl rfl hS (fun w st=>y_ldc rfl isAgg9 (th_cell (st.res (i:=5) rfl).1 ht)) ?_
   refine vp_take rfl rfl rfl hS (fun w st=>y_nes rfl rfl) ?_
   refine vp_take rfl rfl rfl hS (fun w st=>y_pickf rfl rfl) ?_
   refine vp_end (vq_then (vk8 1 2 7 12 74 75 76 107 ?_))
   refine vif ?_ ?_
   ·intro hc107
    exact absurd hc107 (by simp [hnm])
   intro hc107
   try simp only [dn] at hc107
   refine vc_code_skip (vq_block (vq_then (vk7 1 2 7 12 74 75 76 (vc_region ?_))))
   refine vy (y_add rfl rfl (by omega:_=((j+1:Nat):Int)) (by omega) (by omega)) ?_
   refine ym ?_
   refine vc_end ?_
   refine vq_again (j+1)  ⟨rfl,rfl,rfl,rfl,rfl,rfl,rfl,trivial⟩ (st.pick [2,3,4,5] rfl (by decide)) ?_ ?_
   ·omega
   omega
  intro hc77
  try simp only [dn] at hc77
  refine vc_exit (vq_then_exit (vq_then_exit (vq_block_exit (vq_then (vk4 1 2 7 12 (sr ?_))))))
  refine yla st 2 [_,_,_] isAgg26 sizeOf26 ?_
  iterate 2 refine ym ?_
  refine vc_e (e_call [_,_,_] rfl rfl call11 rfl (rename_any p _ old new os ol ot cs cl ct hpg hok hck _ (pg_rows (st.res (i:=3) rfl).1).1 (pg_rows (st.res (i:=3) rfl).1).2.1 (pg_rows (st.res (i:=3) rfl).1).2.2 (Nat.le_refl _)) ?_)
  rintro _ w ⟨cw,hN⟩
  rcases hN with rfl|⟨hnm,hst1,hst2,qv,Sr,rfl,hQr,hNwr⟩
  ·replace st:=st.call0 cw
   refine ym ?_
   iterate 2 refine vy (y_ext rfl rfl) ?_
   refine vc_e (e_al (l:=[_,_,_]) st rfl rfl zeroValue26 rfl ?_)
   intro b20 w hb20 st
   refine vc_e (ests st 0 [_,_,_] sizeOf26 ?_)
   intro w st;dsimp only [setNth,wr] at st
   refine ya ?_
   refine et (vk3 8 12 20 (vc_seq (sr ?_)))
   refine ym ?_
   refine vy (y_nei rfl rfl) ?_
   refine et (vk4 8 12 20 117 ?_)
   refine vif ?_ ?_
   ·intro hc117
    try simp only [dn] at hc117
    refine sr ?_
    refine ym ?_
    refine vy (y_eqi rfl rfl) ?_
    refine ya ?_
    refine et (vk1 6 (vc_ret (vq_then_ret ?_)))
    refine vr1 st results3 ?_
    exact⟨rfl,st.chg⟩
   intro hc117
   exfalso;revert hc117;decide
  ·have hQ2:=hQr
   obtain⟨qs,ks,qo,kl,qt,ktt,-,-,-,rfl,-⟩:=hQ2
   replace st:St w0 [] (.tree Sr (fun w=>PgQ w (trP (rnF old new) idA p) [.slice qs (trP (rnF old new) idA p).shared.length ks,.slice qo (trP (rnF old new) idA p).locks.length kl,.slice qt (trP (rnF old new) idA p).threads.length ktt] Sr)::_) w:=st.pushR cw (Sx.holds_pg hQr) hNwr.2
   have hnoP:=stdP_no hst1
   obtain⟨qpg,qok,qsz⟩:=ren_ok hpg hok hsz hnm hst2
   refine ym ?_
   iterate 2 refine vy (y_ext rfl rfl) ?_
   refine vc_e (e_al (l:=[_,_,_]) st rfl rfl zeroValue26 rfl ?_)
   intro b20 w hb20 st
   refine vc_e (ests st 0 [_,_,_] sizeOf26 ?_)
   intro w st;dsimp only [setNth,wr] at st
   refine ya ?_
   refine et (vk3 8 12 20 (vc_seq (sr ?_)))
   refine ym ?_
   refine vy (y_nei rfl rfl) ?_
   refine et (vk4 8 12 20 117 ?_)
   refine vif ?_ ?_
   ·intro hc117
    exfalso;revert hc117;decide
   intro hc117
   try simp only [dn] at hc117
   refine kt (vk2 12 20 (sr ?_))
   refine yla st 0 [_,_,_] isAgg26 sizeOf26 ?_
   refine vc_e (e_call [_] rfl rfl call7 rfl (llower_any (trP (rnF old new) idA p) _ qs qo qt ks kl ktt qpg qok qsz _ (pg_rows (st.res (i:=1) rfl).1).1 (pg_rows (st.res (i:=1) rfl).1).2.1 (pg_rows (st.res (i:=1) rfl).1).2.2 (Nat.le_refl _)) ?_)
   rintro _ w hL
   obtain⟨cw,D2,uv2,rfl,hD2,hU2⟩:=low_q hck hD hnoP hL
   obtain⟨v1,e1,v2,e2,vg,eg,BV,rfl,hBV,hVW⟩:=un_blocks hU2
   replace st:St w0 [] (.tree BV (UnW (trP (rnF old new) idA p) D2 v1 v2 vg BV)::_) w:=st.pushR cw (un_holds hVW (fun b hb=>(hBV b hb).2)) (fun b hb=>(hBV b hb).1)
   obtain⟨hDl,hDN⟩:=grs_q hck hnoP hD hD2
   refine ym ?_
   iterate 2 refine vy (y_ext rfl rfl) ?_
   refine vc_e (e_al (l:=[_,_,_]) st rfl rfl zeroValue36 rfl ?_)
   intro b21 w hb21 st
   refine vc_e (ests st 0 [_,_,_] sizeOf36 ?_)
   intro w st;dsimp only [setNth,wr] at st
   refine ya ?_
   refine et (vk3 8 12 21 (vc_seq (sr ?_)))
   refine ym ?_
   refine vy (y_nei rfl rfl) ?_
   refine vmb ?_ ?_
   ·intro hg127
    exfalso;revert hg127;decide
   intro hg127
   try simp only [dn] at hg127
   refine yfz 2 underlying36 sizeOf34 ?_
   refine yl st 0 isAgg34 ?_
   refine vy (y_lensl rfl underlying34) ?_
   refine yfz 2 underlying36 sizeOf34 ?_
   refine yl st 5 isAgg34 ?_
   refine vy (y_lensl rfl underlying34) ?_
   refine vy (y_nei rfl rfl) ?_
   refine ypf ?_
   refine et (vk3 12 21 135 ?_)
   refine vif ?_ ?_
   ·intro hc135
    exact absurd hc135 (by simp [hDl])
   intro hc135
   try simp only [dn] at hc135
   refine kt (vk2 12 21 (vc_seq (sr ?_)))
   refine yfz 2 underlying36 sizeOf34 ?_
   refine yl st 5 isAgg34 ?_
   refine vy (y_lensl rfl underlying34) ?_
   refine ym ?_
   refine et (vk4 12 21 138 139 (vc_block ?_))
   refine vc_loop (w0:=w0) (M:=[]) (fun (j:Nat)=>[(12,.pointer (some ⟨b12,0,none⟩)),(21,.pointer (some ⟨b21,0,none⟩)),(138,.int .i64 (D.length:Int)),(139,.int .i64 (j:Int))]) (fun j=>[.tree BV (UnW (trP (rnF old new) idA p) D2 v1 v2 vg BV),.blk b21 (.cells [.slice v1 (trP (rnF old new) idA p).shared.length e1,.slice v2 (trP (rnF old new) idA p).locks.length e2,.slice vg D2.length eg].toArray 36 (0,0)),.tree BU (UnW p D o1 o2 og BU),.blk b12 (.cells [.slice o1 p.shared.length c1,.slice o2 p.locks.length c2,.slice og D.length cg].toArray 36 (0,0))]) (fun j w'=>j≤D.length) (fun j=>D.length - j) 0 ⟨rfl,rfl,rfl,rfl,trivial⟩ (st.pick [1,0,4,5] rfl (by decide)) (by simp) ?_
   clear st
   intro j w hj st
   refine sr ?_
   refine vy (y_lss rfl rfl) ?_
   refine et (vk5 12 21 138 139 140 (vc_seq ?_))
   refine vif ?_ ?_
   ·intro hc140
    try simp only [dn] at hc140
    have hj2:j<D.length:=by omega
    obtain⟨d,hd⟩:∃ d,D[j]?=some d:=⟨_,List.getElem?_eq_getElem hj2⟩
    obtain⟨d2,hd2⟩:∃ d2,D2[j]?=some d2:=⟨_,List.getElem?_eq_getElem (by omega)⟩
    have hNN:=hDN j d d2 hd hd2
    obtain⟨nm2,lc2,N2,s2,on2,zn2⟩:=d2
    simp only at hNN
    subst hNN
    have hdm:=List.mem_of_getElem? hd
    have hdm2:=List.mem_of_getElem? hd2
    obtain⟨lab,hGr⟩:=(unOk hpg hck hD).ok d hdm
    have hle:=hGr.le
    have stK:=st
    obtain⟨gb,go,rfl,-⟩:=GrRow.at (st.res (i:=2) rfl).1.2.2 (by omega)
    obtain⟨gb2,go2,rfl,-⟩:=GrRow.at (st.res (i:=0) rfl).1.2.2 (by omega)
    have st:=stK
    clear stK
    refine kt (vk4 12 21 138 139 (vc_seq (vc_block (sr ?_))))
    refine ym ?_
    refine ya ?_
    refine et (vk5 12 21 22 138 139 (vc_seq ?_))
    refine vdr0 Tryz.mixed [Yt 0,Yt 1,Yt 2,Yt 3,Yt 4,Yt 5,Yt 6,Yt 7,Yt 8,Yt 9,Yt 10,Yt 11,Nt 12,Yt 13] st ?_
    clear st;intro w st hS
    refine pfz hS 2 underlying36 sizeOf34 ?_
    refine pld hS 3 isAgg34 ?_
    refine pm hS ?_
    refine vp_take rfl rfl rfl hS (fun w st=>y_ia (k:=j) rfl rfl underlying34 sizeOf43 rfl (by omega)) ?_
    refine vp_take rfl rfl rfl hS (fun w st=>y_fa (k:=3) rfl underlying43 rfl rfl sizeOf41 rfl) ?_
    refine vp_take rfl rfl rfl hS (fun w st=>y_ldc rfl isAgg41 (gr_cell (st.res (i:=2) rfl).1 hd 3 rfl)) ?_
    refine pfz hS 2 underlying36 sizeOf34 ?_
    refine pld hS 1 isAgg34 ?_
    refine pm hS ?_
    refine vp_take rfl rfl rfl hS (fun w st=>y_ia (k:=j) rfl rfl underlying34 sizeOf43 rfl (by omega)) ?_
    refine vp_take rfl rfl rfl hS (fun w st=>y_fa (k:=3) rfl underlying43 rfl rfl sizeOf41 rfl) ?_
    refine vp_take rfl rfl rfl hS (fun w st=>y_ldc rfl isAgg41 (gr_cell (st.res (i:=0) rfl).1 hd2 3 rfl)) ?_
    refine vp_do rfl (e_call [_,_] rfl rfl call12 rfl (tnodes_any (fun _=>True) d.N d.on on2 d.zn zn2 hle _ (RowC.mono ((st.res (i:=2) rfl).1.2.2.2 d hdm) (fun _ _=>trivial)) (RowC.mono ((st.res (i:=0) rfl).1.2.2.2 _ hdm2) (fun _ _=>trivial))) ?_)
    rintro _ w ⟨rfl,cw⟩
    replace st:=st.call0 cw
    refine vp_next (by exact st) ?_;intro hS
    refine vp_take rfl rfl rfl hS (fun w st=>y_not rfl) ?_
    refine vp_end (vq_then (vk5 12 21 138 139 155 ?_))
    refine vif ?_ ?_
    ·intro hc155
     exfalso;revert hc155;decide
    intro hc155
    try simp only [dn] at hc155
    refine vc_code_skip (vq_block (vq_then (vk4 12 21 138 139 (vc_region ?_))))
    refine vy (y_add rfl rfl (by omega:_=((j+1:Nat):Int)) (by omega) (by omega)) ?_
    refine ym ?_
    refine vc_end ?_
    refine vq_again (j+1)  ⟨rfl,rfl,rfl,rfl,trivial⟩ st ?_ ?_
    ·omega
    omega
   intro hc140
   try simp only [dn] at hc140
   refine vc_exit (vq_then_exit (vq_then_exit (vq_block_exit (vq_then (vc_keep [] trivial (sr ?_))))))
   refine ya ?_
   refine et (vk1 6 (vc_ret ?_))
   refine vr1 st results3 ?_
   exact⟨rfl,st.chg⟩
end Go.Proofs.YtkhpdpenlnhbiaaGreatDoor
