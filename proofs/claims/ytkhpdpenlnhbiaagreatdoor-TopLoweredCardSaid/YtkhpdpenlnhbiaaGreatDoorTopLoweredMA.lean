/- A part of the proof: contracts of functions and plain laws; each theorem says its own conditions. -/
import Derived.Test.YtkhpdpenlnhbiaaGreatDoorTopLoweredK7
import Derived.Test.YtkhpdpenlnhbiaaGreatDoorTopLoweredLM
namespace Go.Proofs.YtkhpdpenlnhbiaaGreatDoor
open Go.RowKit Sx LexS ParS _root_.Go.Proofs.Tryz
set_option linter.unusedVariables false
set_option linter.unusedSimpArgs false
abbrev bV (l:List Bool):List Value:=l.map fun b=>Value.bool b
theorem bV_set (l:List Bool) (k:Nat) (b:Bool):setNth (bV l) (k*1) (.bool b)=bV (l.set k b):=by
 rw [setNth_eq,Nat.mul_one,bV,bV,List.map_set]
def mkB (lo sh:List Dc) (B:List Bool) (nm:Wd):List Bool:=match idxO lo nm with
 | some _=>B
 | none=>match idxO sh nm with
  | some k=>B.set k true
  | none=>B
theorem mkB_len (lo sh:List Dc) (B:List Bool) (nm:Wd):(mkB lo sh B nm).length=B.length:=by
 unfold mkB
 split
 ·rfl
 ·split <;> simp
theorem mkBs_len (lo sh:List Dc):∀ (l:List Wd) (B:List Bool),(l.foldl (mkB lo sh) B).length=B.length
 | [],B=>rfl
 | x::r,B=>by rw [List.foldl_cons,mkBs_len lo sh r,mkB_len]
theorem mkBs_get {lo sh:List Dc}:∀ (l:List Wd) (B:List Bool) (i:Nat),(l.foldl (mkB lo sh) B)[i]?=some true↔B[i]?=some true∨(i<B.length∧Tch lo sh l (i:Int))
 | [],B,i=>by simp [Tch.nil]
 | x::r,B,i=>by
  rw [List.foldl_cons,mkBs_get r,mkB_len,show x::r=[x]++r from rfl,Tch.app,Tch.one]
  have key:(mkB lo sh B x)[i]?=some true↔B[i]?=some true∨(i<B.length∧idxO lo x=none∧idxI sh x=(i:Int)):=by
   unfold mkB idxI
   cases h1:idxO lo x with
   | some k=>simp
   | none=>
    cases h2:idxO sh x with
    | none=>
     have:¬ (-1:Int)=(i:Int):=by omega
     simp [this]
    | some k=>
     simp only [List.getElem?_set]
     by_cases hk:k=i
     ·subst hk
      by_cases hl:k<B.length
      ·simp [hl]
      ·simp [hl,List.getElem?_eq_none (Nat.not_lt.1 hl)]
     ·have:¬ (k:Int)=(i:Int):=by omega
      simp [hk,this]
  rw [key]
  constructor
  ·rintro ((h|h)|h)
   ·exact .inl h
   ·exact .inr ⟨h.1,.inl h.2⟩
   ·exact .inr ⟨h.1,.inr h.2⟩
  ·rintro (h|⟨h,h2|h2⟩)
   ·exact .inl (.inl h)
   ·exact .inl (.inr ⟨h,h2⟩)
   ·exact .inr ⟨h,h2⟩
theorem rdEs_app:∀ (a b:List Ex),rdEs (a++b)=rdEs a++rdEs b
 | [],b=>rfl
 | x::r,b=>by rw [List.cons_append,rdEs,rdEs,rdEs_app r b,List.append_assoc]
theorem rdSs_app:∀ (a b:List Sm),rdSs (a++b)=rdSs a++rdSs b
 | [],b=>rfl
 | x::r,b=>by rw [List.cons_append,rdSs,rdSs,rdSs_app r b,List.append_assoc]
theorem wrSs_app:∀ (a b:List Sm),wrSs (a++b)=wrSs a++wrSs b
 | [],b=>rfl
 | x::r,b=>by rw [List.cons_append,wrSs,wrSs,wrSs_app r b,List.append_assoc]
theorem rdE_eq (e:Ex):rdE e=(if e.k=2 then [e.nm] else [])++rdEs e.kids:=by cases e;simp only [rdE,Ex.k,Ex.nm,Ex.kids] <;> rfl
theorem rdS_eq (s:Sm):rdS s=(if s.k=2 then [s.other] else [])++(rdEs s.e++(rdSs s.body++rdSs s.els)):=by cases s;simp only [rdS,Sm.k,Sm.other,Sm.e,Sm.body,Sm.els] <;> rfl
theorem wrS_eq (s:Sm):wrS s=(if s.k=2 then [s.other,s.nm] else if s.k=1 then [s.nm] else [])++(wrSs s.body++wrSs s.els):=by cases s;simp only [wrS,Sm.k,Sm.other,Sm.nm,Sm.body,Sm.els] <;> rfl
theorem take_one {α:Type} {l:List α} {j:Nat} {x:α} (hx:l[j]?=some x):l.take (j+1)=l.take j++[x]:=by rw [List.take_add_one,hx];rfl
abbrev txC (c:Cx) (rb wb:Nat):List Value:=[.slice c.os c.p.shared.length c.cs,.slice c.ol c.p.locks.length c.cl,.slice c.ot c.p.threads.length c.ct,.int .i64 (c.ti:Int),.slice (some ⟨rb,0,none⟩) c.p.shared.length c.p.shared.length,.slice (some ⟨wb,0,none⟩) c.p.shared.length c.p.shared.length]
abbrev mkF (c:Cx) (l:List Wd) (B:List Bool):List Bool:=l.foldl (mkB c.t.locals c.p.shared) B
section
variable {n0:Nat}
theorem tmark_any (c:Cx) (xb rb wb bb:Nat) (B:List Bool) (nm:Wd) (w:World) (hx:w.heap[xb]?=some (.cells (txC c rb wb).toArray 92 (0,0))) (hb:w.heap[bb]?=some (.cells (bV B).toArray 4 (0,0))) (hne:bb≠xb) (hB:B.length=c.p.shared.length) (hbn:n0≤bb) (hcx:CxOk n0 c w) :
    Ret Tryz.prog 64 [.pointer (some ⟨xb,0,none⟩),.slice (some ⟨bb,0,none⟩) c.p.shared.length c.p.shared.length,str nm] w fun v w'=>w'.heap[bb]?=some (.cells (bV (mkF c [nm] B)).toArray 4 (0,0))∧Chg [bb] w w':=by
 refine ret_of [_,_,_] func64 rfl ntmps64 rfl ?_
 have st:=St.init w []
 obtain⟨w0,rfl⟩:∃ w0,w0=w:=⟨_,rfl⟩
 have hS0:∀ k∈[bb],n0≤k:=fun k hk=>by simp only [List.mem_singleton] at hk;omega
 replace st:=St.of2 [bb] hb hx hne
 refine vc_seq (vc_seq ?_)
 refine vdr0 Tryz.mixed [Yt 0,Yt 1,Yt 2,Yt 3,Yt 4,Yt 5,Yt 6,Yt 7,Yt 8,Nt 9,Yt 10] st ?_
 clear st;intro w st hS
 refine pm hS ?_
 refine pnk hS ?_
 refine pf0 hS underlying92 sizeOf26 ?_
 refine vp_take rfl rfl rfl hS (fun w st=>y_lda (vs:=[_,_,_]) st 1 rfl isAgg26 sizeOf26 rfl rfl) ?_
 refine pm hS ?_
 refine pnk hS ?_
 refine pfz hS 3 underlying92 sizeOf3 ?_
 refine pld hS 1 isAgg3 ?_
 refine pm hS ?_
 refine vp_do rfl (e_call [_,_,_] rfl rfl call109 rfl (clocal_any c.p c.t c.ti hcx.me c.os c.ol c.ot c.cs c.cl c.ct _ _ nm n0 _ (hcx.th.kept (.of_chg st.chg (fun b hb hm=>absurd (hS0 b hm) (by omega)))) hcx.lc) ?_)
 rintro _ w ⟨rfl,cw⟩
 replace st:=st.call0 cw
 refine vp_next (by exact st) ?_;intro hS
 refine vp_take rfl rfl rfl hS (fun w st=>y_geq rfl rfl) ?_
 refine vp_end (vq_then (vk4 0 1 2 17 ?_))
 refine vif ?_ ?_
 ·intro hc17
  try simp only [dn] at hc17
  obtain⟨k,hk1,hk2⟩:=idxI_some (by omega:0≤idxI c.t.locals nm)
  refine vc_ret (vq_then_ret ?_)
  refine vq_ret0 (.inl rfl) results64 ?_
  refine⟨_,rfl,?_⟩
  refine⟨?_,st.chg⟩
  rw [show mkF c [nm] B=B by simp [mkF,mkB,hk1]]
  exact st.res (i:=0) rfl
 intro hc17
 try simp only [dn] at hc17
 have hno:=idxI_none (by omega:idxI c.t.locals nm<0)
 refine kt (vk3 0 1 2 (sr ?_))
 refine ym ?_
 refine ynk ?_
 refine vy (y_fa0 rfl underlying92 rfl rfl sizeOf26 rfl) ?_
 refine yla st 1 [_,_,_] isAgg26 sizeOf26 ?_
 refine ym ?_
 refine vc_e (e_call [_,_] rfl rfl call69 rfl (cshared_any c.p.shared c.os c.ol c.ot c.cs c.cl c.ct _ _ nm n0 _ (hcx.sh.kept (.of_chg st.chg (fun b hb hm=>absurd (hS0 b hm) (by omega)))) hcx.ls) ?_)
 rintro _ w ⟨rfl,cw⟩
 replace st:=st.call0 cw
 refine ya ?_
 refine et (vk2 1 6 (sr ?_))
 refine ym ?_
 refine vy (y_geq rfl rfl) ?_
 refine et (vk3 1 6 25 ?_)
 refine vif ?_ ?_
 ·intro hc25
  try simp only [dn] at hc25
  obtain⟨k,hk1,hk2⟩:=idxI_some (by omega:0≤idxI c.p.shared nm)
  have hkl:=idxO_lt hk1
  refine vc_region ?_
  iterate 2 refine ym ?_
  refine vy (y_ia0 (k:=k) rfl rfl underlying90 sizeOf4 hk2 (by omega)) ?_
  refine vc_e (e_st st 0 rfl rfl rfl rfl sizeOf4 rfl (by simp only [Nat.blt_eq,List.length_map];omega) (.inl (.head _)) ?_)
  intro w st;dsimp only [setNth] at st
  rw [bV_set] at st
  refine vc_end ?_
  refine vq_ret0 (.inr rfl) results64 ?_
  refine⟨_,rfl,?_⟩
  refine⟨?_,st.chg⟩
  rw [show mkF c [nm] B=B.set k true by simp [mkF,mkB,hno,hk1]]
  exact st.res (i:=0) rfl
 intro hc25
 try simp only [dn] at hc25
 have hno2:=idxI_none (by omega:idxI c.p.shared nm<0)
 refine vc_code_skip ?_
 refine vq_ret0 (.inr rfl) results64 ?_
 refine⟨_,rfl,?_⟩
 refine⟨?_,st.chg⟩
 rw [show mkF c [nm] B=B by simp [mkF,mkB,hno,hno2]]
 exact st.res (i:=0) rfl
def TEs (n0 : Nat) (c : Cx) (xb rb wb : Nat) (es : List Ex) : Prop := es.length ≤ 1099511627776 → ∀ (B : List Bool) (oa : Option Addr) (z : Nat) (w : World), w.heap[xb]? = some (.cells (txC c rb wb).toArray 92 (0, 0)) → w.heap[rb]? = some (.cells (bV B).toArray 4 (0, 0)) → rb ≠ xb → B.length = c.p.shared.length → n0 ≤ rb → CxOk n0 c w → ExRow w (· < n0) oa es →
    Ret Tryz.prog 65 [.pointer (some ⟨xb,0,none⟩),.slice oa es.length z] w fun v w'=>w'.heap[rb]?=some (.cells (bV (mkF c (rdEs es) B)).toArray 4 (0,0))∧Chg [rb] w w'
theorem mkF_app (c:Cx) (a b:List Wd) (B:List Bool):mkF c (a++b) B=mkF c b (mkF c a B):=List.foldl_append ..
set_option maxHeartbeats 1000000 in
theorem texprs_of (c:Cx) (xb rb wb:Nat) (es:List Ex) (hok:OkEs es) (hK:∀ e∈es,TEs n0 c xb rb wb e.kids):TEs n0 c xb rb wb es:=by
 intro hlm B oa z w hx hb hne hB hbn hcx hR
 refine ret_of [_,_] func65 rfl ntmps65 rfl ?_
 have st:=St.init w []
 obtain⟨w0,rfl⟩:∃ w0,w0=w:=⟨_,rfl⟩
 have hS0:∀ k∈[rb],n0≤k:=fun k hk=>by simp only [List.mem_singleton] at hk;omega
 replace st:=St.of2 [rb] hb hx hne
 refine sr ?_
 refine ym ?_
 refine vy (y_lensl rfl underlying142) ?_
 refine ym ?_
 refine et (vk4 0 6 7 8 (vc_block ?_))
 refine vc_loop (w0:=w0) (M:=[rb]) (fun (j:Nat)=>[(0,.pointer (some ⟨xb,0,none⟩)),(6,.slice oa es.length z),(7,.int .i64 (es.length:Int)),(8,.int .i64 (j:Int))]) (fun j=>[.blk rb (.cells (bV (mkF c (rdEs (es.take j)) B)).toArray 4 (0,0)),.blk xb (.cells (txC c rb wb).toArray 92 (0,0))]) (fun j w'=>j≤es.length) (fun j=>es.length - j) 0 ⟨rfl,rfl,rfl,rfl,trivial⟩ st (by simp) ?_
 clear st
 intro j w hj st
 refine sr ?_
 refine vy (y_lss rfl rfl) ?_
 refine et (vk5 0 6 7 8 9 (vc_seq ?_))
 refine vif ?_ ?_
 ·intro hc9
  try simp only [dn] at hc9
  have hj2:j<es.length:=by omega
  obtain⟨x,hxe⟩:∃ x,es[j]?=some x:=⟨_,List.getElem?_eq_getElem hj2⟩
  obtain⟨gb,go,rfl,hgS,hgl,hg⟩:=ExRow.at hR (by omega)
  have hgS2:gb<n0:=hgS
  obtain⟨o0,c0,hV0,hr0,hc0⟩:=hg j x hxe
  have hxm:=List.mem_of_getElem? hxe
  obtain⟨Bj,hBj⟩:∃ Bj,Bj=mkF c (rdEs (es.take j)) B:=⟨_,rfl⟩
  have hBl:Bj.length=c.p.shared.length:=by rw [hBj,mkF,mkBs_len,hB]
  have hkl:x.kids.length≤1099511627776:=(hok.2 j x hxe).kids.1
  refine kt (vk4 0 6 7 8 (vc_seq (vc_block (sr ?_))))
  refine vy (y_ia (k:=j) rfl rfl underlying142 sizeOf177 rfl (by omega)) ?_
  refine vy (y_ldca (exL x o0 c0) rfl isAgg177 sizeOf177 rfl (fun i v hi=>st.chg.cell (hc0 i v hi) (fun hm=>absurd (hS0 gb hm) (by omega)))) ?_
  refine vc_e (e_al (l:=[_,_,_,_,_,_]) st rfl rfl zeroValue177 rfl ?_)
  intro b5 w hb5 st
  refine vc_e (ests st 0 [_,_,_,_,_,_] sizeOf177 ?_)
  intro w st;dsimp only [setNth,wr] at st
  refine et (vk5 0 5 6 7 8 (vc_seq (sr ?_)))
  rw [← hBj] at st
  refine vy (y_fa0 rfl underlying177 rfl rfl sizeOf175 rfl) ?_
  refine yl st 0 isAgg175 ?_
  refine vy (y_eqi rfl rfl) ?_
  refine et (vk6 0 5 6 7 8 14 ?_)
  refine vif ?_ ?_
  intro hc14
  try simp only [dn] at hc14
  have hif:mkF c (if x.k=2 then [x.nm] else []) (mkF c (rdEs (es.take j)) B)=mkF c [x.nm] Bj:=by rw [if_pos (by omega),hBj]
  refine vdr Tryz.mixed [Yt 0,Yt 1,Yt 2,Yt 3,Yt 4,Yt 5,Yt 6,Nt 7] [.blk b5 (.cells (exL x o0 c0).toArray 177 (0,0)),.blk xb (.cells (txC c rb wb).toArray 92 (0,0))] st ?_
  clear st;intro w st hS
  iterate 2 refine pm hS ?_
  refine pnk hS ?_
  refine pfz hS 4 underlying92 sizeOf90 ?_
  refine pld hS 1 isAgg90 ?_
  refine pfz hS 3 underlying177 sizeOf9 ?_
  refine pld hS 0 isAgg9 ?_
  refine vp_do rfl (e_call [_,_,_] rfl rfl call64 rfl (tmark_any (n0:=n0) c xb rb wb rb Bj x.nm _ (st.res (i:=2) rfl) (st.res (i:=1) rfl) hne hBl hbn (hcx.kept (.of_chg st.chg (fun b hb hm=>absurd (hS0 b hm) (by omega))))) ?_)
  rintro _ w ⟨hh,cw⟩
  replace st:=st.swap (i:=1) (r':=.blk rb _) rfl cw (fun k hk=>hk) (fun k hk=>.inl (by simp only [List.mem_singleton] at hk;subst hk;simp)) (fun k hk=>.inl (by exact hk)) hh
  dsimp only [setNth] at st
  refine vp_next st.dr ?_;intro hS
  refine vp_end ?_
  rotate_left
  intro hc14
  try simp only [dn] at hc14
  have hif:mkF c (if x.k=2 then [x.nm] else []) (mkF c (rdEs (es.take j)) B)=Bj:=by rw [if_neg (by omega),hBj];rfl
  refine vc_code_skip ?_
  all_goals
   refine vq_then (vk5 0 5 6 7 8 (vc_region ?_))
   refine ym ?_
   refine yfz 4 underlying177 sizeOf142 ?_
   refine yl st 0 isAgg142 ?_
   refine vc_e (e_call [_,_] rfl rfl call65 rfl (hK x hxm hkl _ _ _ _ (st.res (i:=2) rfl) (st.res (i:=1) rfl) hne (by first|exact hBl|(rw [mkF,mkBs_len];exact hBl)) hbn (hcx.kept (.of_chg st.chg (fun b hb hm=>absurd (hS0 b hm) (by omega)))) (ExRow.kept hr0 (.of_chg st.chg (fun b hb hm=>absurd (hS0 b hm) (by omega))))) ?_)
   rintro _ w ⟨hh,cw⟩
   replace st:=st.swap (i:=1) (r':=.blk rb _) rfl cw (fun k hk=>hk) (fun k hk=>.inl (by simp only [List.mem_singleton] at hk;subst hk;simp)) (fun k hk=>.inl (by exact hk)) hh
   dsimp only [setNth] at st
   refine vc_end (vq_block (vq_then (vk4 0 6 7 8 (vc_region ?_))))
   refine vy (y_add rfl rfl (by omega:_=((j+1:Nat):Int)) (by omega) (by omega)) ?_
   refine ym ?_
   refine vc_end ?_
   refine vq_again (j+1)  ⟨rfl,rfl,rfl,rfl,trivial⟩ (by rw [take_one hxe,rdEs_app,mkF_app,show rdEs [x]=rdE x by simp [rdEs],rdE_eq,mkF_app,hif];exact st.drop (.cons _ (List.Sublist.refl _))) ?_ ?_
   ·omega
   ·omega
 intro hc9
 try simp only [dn] at hc9
 have hj2:j=es.length:=by omega
 subst hj2
 rw [List.take_length] at st
 refine vc_exit (vq_then_exit (vq_then_exit (vq_block_exit ?_)))
 refine vq_ret0 (.inr rfl) results65 ?_
 refine⟨_,rfl,?_⟩
 exact⟨st.res (i:=0) rfl,st.chg⟩
mutual
theorem tkids_any (c:Cx) (xb rb wb:Nat):∀ (e:Ex),OkE e→TEs n0 c xb rb wb e.kids
 | .mk k op wd nm kids a=>fun h=>texprs_of c xb rb wb kids h.kids (texs_any c xb rb wb kids h.kids)
termination_by structural e=>e
theorem texs_any (c:Cx) (xb rb wb:Nat):∀ (l:List Ex),OkEs l→∀ e∈l,TEs n0 c xb rb wb e.kids
 | []=>fun h e he=>by simp at he
 | x::r=>fun h e he=>by
  by_cases hx:e=x
  ·rw [hx];exact tkids_any c xb rb wb x (h.2 0 x rfl)
  ·exact texs_any c xb rb wb r ⟨Nat.le_trans (by simp) h.1,fun j y hy=>h.2 (j+1) y (by simpa using hy)⟩ e ((List.mem_cons.1 he).resolve_left hx)
termination_by structural l=>l
end
theorem texprs_any (c:Cx) (xb rb wb:Nat) (es:List Ex) (h:OkEs es):TEs n0 c xb rb wb es:=texprs_of c xb rb wb es h (texs_any c xb rb wb es h)
def TSs (n0 : Nat) (c : Cx) (xb rb wb : Nat) (l : List Sm) : Prop := ∀ (R W : List Bool) (oa : Option Addr) (z : Nat) (w : World), w.heap[xb]? = some (.cells (txC c rb wb).toArray 92 (0, 0)) → w.heap[rb]? = some (.cells (bV R).toArray 4 (0, 0)) → w.heap[wb]? = some (.cells (bV W).toArray 4 (0, 0)) → [rb, wb, xb].Nodup → R.length = c.p.shared.length → W.length = c.p.shared.length → n0 ≤ rb → n0 ≤ wb → CxOk n0 c w → SmRow w (· < n0) oa l →
    Ret Tryz.prog 25 [.pointer (some ⟨xb,0,none⟩),.slice oa l.length z] w fun v w'=>w'.heap[rb]?=some (.cells (bV (mkF c (rdSs l) R)).toArray 4 (0,0))∧w'.heap[wb]?=some (.cells (bV (mkF c (wrSs l) W)).toArray 4 (0,0))∧Chg [rb,wb] w w'
set_option maxHeartbeats 2000000 in
theorem tstmts_of (c:Cx) (xb rb wb:Nat) (l:List Sm) (hok:OkSs l) (hB:∀ s∈l,TSs n0 c xb rb wb s.body) (hE:∀ s∈l,TSs n0 c xb rb wb s.els):TSs n0 c xb rb wb l:=by
 intro R W oa z w hx hr hw hnd hRl hWl hbr hbw hcx hrow
 have hlm:=hok.1
 have hnd2:=hnd
 simp only [List.nodup_cons,List.mem_cons,List.not_mem_nil,or_false,not_or,List.nodup_nil,and_true] at hnd2
 obtain⟨⟨hn0,hn1⟩,hn2,-⟩:=hnd2
 refine ret_of [_,_] func25 rfl ntmps25 rfl ?_
 have st:=St.init w []
 obtain⟨w0,rfl⟩:∃ w0,w0=w:=⟨_,rfl⟩
 have hS0:∀ k∈[rb,wb],n0≤k:=fun k hk=>by simp only [List.mem_cons,List.not_mem_nil,or_false] at hk;omega
 replace st:=(((St.init w0 [rb,wb]).addB hx (by simp)).addB hw (by simp [blk_at];omega)).addB hr (by simp [blk_at];omega)
 refine sr ?_
 refine ym ?_
 refine vy (y_lensl rfl underlying48) ?_
 refine ym ?_
 refine et (vk4 0 6 7 8 (vc_block ?_))
 refine vc_loop (w0:=w0) (M:=[rb,wb]) (fun (j:Nat)=>[(0,.pointer (some ⟨xb,0,none⟩)),(6,.slice oa l.length z),(7,.int .i64 (l.length:Int)),(8,.int .i64 (j:Int))]) (fun j=>[.blk rb (.cells (bV (mkF c (rdSs (l.take j)) R)).toArray 4 (0,0)),.blk wb (.cells (bV (mkF c (wrSs (l.take j)) W)).toArray 4 (0,0)),.blk xb (.cells (txC c rb wb).toArray 92 (0,0))]) (fun j w'=>j≤l.length) (fun j=>l.length - j) 0 ⟨rfl,rfl,rfl,rfl,trivial⟩ st (by simp) ?_
 clear st
 intro j w hj st
 refine sr ?_
 refine vy (y_lss rfl rfl) ?_
 refine et (vk5 0 6 7 8 9 (vc_seq ?_))
 refine vif ?_ ?_
 ·intro hc9
  try simp only [dn] at hc9
  have hj2:j<l.length:=by omega
  obtain⟨s,hxs⟩:∃ s,l[j]?=some s:=⟨_,List.getElem?_eq_getElem hj2⟩
  obtain⟨gb,go,rfl,hgS,hgl,hg⟩:=SmRow.at hrow (by omega)
  have hgS2:gb<n0:=hgS
  obtain⟨oe,ob,ol,ze,zb,zl,hV0,hre,hrb,hrl,hsc⟩:=hg j s hxs
  have hsm:=List.mem_of_getElem? hxs
  refine kt (vk4 0 6 7 8 (vc_seq (vc_block (sr ?_))))
  refine vy (y_ia (k:=j) rfl rfl underlying48 sizeOf144 rfl (by omega)) ?_
  refine vy (y_ldca (smL s oe ob ol ze zb zl) rfl isAgg144 sizeOf144 rfl (fun i v hi=>st.chg.cell (hsc i v hi) (fun hm=>absurd (hS0 gb hm) (by omega)))) ?_
  refine vc_e (e_al (l:=[_,_,_,_,_,_,_]) st rfl rfl zeroValue144 rfl ?_)
  intro b5 w hb5 st
  refine vc_e (ests st 0 [_,_,_,_,_,_,_] sizeOf144 ?_)
  intro w st;dsimp only [setNth,wr] at st
  refine et (vk5 0 5 6 7 8 ?_)
  refine vc_cut (w0:=w0) (M:=[rb,wb]) (fun (_:Unit)=>[(0,.pointer (some ⟨xb,0,none⟩)),(5,.pointer (some ⟨b5,0,none⟩)),(6,.slice (some ⟨gb,go,none⟩) l.length z),(7,.int .i64 (l.length:Int)),(8,.int .i64 (j:Int))]) (fun _=>[.blk b5 (.cells (smL s oe ob ol ze zb zl).toArray 144 (0,0)),.blk rb (.cells (bV (mkF c (if s.k=2 then [s.other] else []) (mkF c (rdSs (l.take j)) R))).toArray 4 (0,0)),.blk wb (.cells (bV (mkF c (if s.k=2 then [s.other,s.nm] else if s.k=1 then [s.nm] else []) (mkF c (wrSs (l.take j)) W))).toArray 4 (0,0)),.blk xb (.cells (txC c rb wb).toArray 92 (0,0))]) (fun _ w=>True) ?_ ?_
  ·refine vc_seq ?_
   refine vc_region ?_
   refine vy (y_fa0 rfl underlying144 rfl rfl sizeOf141 rfl) ?_
   refine yl st 0 isAgg141 ?_
   refine et (vk6 0 5 6 7 8 13 (vc_block (sr ?_)))
   refine vy (y_eqi rfl rfl) ?_
   refine ya ?_
   refine et (vk7 0 5 6 7 8 13 14 ?_)
   refine vif ?_ ?_
   ·intro hc14
    try simp only [dn] at hc14
    refine vc_seq ?_
    refine vdr Tryz.mixed [Yt 0,Yt 1,Yt 2,Yt 3,Yt 4,Yt 5,Yt 6,Nt 7] [.blk b5 (.cells (smL s oe ob ol ze zb zl).toArray 144 (0,0)),.blk xb (.cells (txC c rb wb).toArray 92 (0,0))] st ?_
    clear st;intro w st hS
    iterate 2 refine pm hS ?_
    refine pnk hS ?_
    refine pfz hS 4 underlying92 sizeOf90 ?_
    refine pld hS 1 isAgg90 ?_
    refine pfz hS 2 underlying144 sizeOf9 ?_
    refine pld hS 0 isAgg9 ?_
    refine vp_do rfl (e_call [_,_,_] rfl rfl call64 rfl (tmark_any (n0:=n0) c xb rb wb rb _ s.other _ (st.res (i:=3) rfl) (st.res (i:=1) rfl) hn1 (by(simp only [mkF,mkBs_len];exact hRl)) hbr (hcx.kept (.of_chg st.chg (fun b hb hm=>absurd (hS0 b hm) (by omega))))) ?_)
    rintro _ w ⟨hh,cw⟩
    replace st:=st.swap (i:=1) (r':=.blk rb _) rfl cw (fun k hk=>hk) (fun k hk=>.inl (by simp only [List.mem_singleton] at hk;subst hk;simp)) (fun k hk=>.inl (by exact hk)) hh
    dsimp only [setNth] at st
    refine vp_next st.dr ?_;intro hS
    refine vp_end (vq_then (vk5 0 5 6 7 8 (vc_seq ?_)))
    refine vdr Tryz.mixed [Yt 0,Yt 1,Yt 2,Yt 3,Yt 4,Yt 5,Yt 6,Nt 7] [.blk b5 (.cells (smL s oe ob ol ze zb zl).toArray 144 (0,0)),.blk xb (.cells (txC c rb wb).toArray 92 (0,0))] st ?_
    clear st;intro w st hS
    iterate 2 refine pm hS ?_
    refine pnk hS ?_
    refine pfz hS 5 underlying92 sizeOf90 ?_
    refine pld hS 1 isAgg90 ?_
    refine pfz hS 2 underlying144 sizeOf9 ?_
    refine pld hS 0 isAgg9 ?_
    refine vp_do rfl (e_call [_,_,_] rfl rfl call64 rfl (tmark_any (n0:=n0) c xb rb wb wb _ s.other _ (st.res (i:=3) rfl) (st.res (i:=2) rfl) hn2 (by(simp only [mkF,mkBs_len];exact hWl)) hbw (hcx.kept (.of_chg st.chg (fun b hb hm=>absurd (hS0 b hm) (by omega))))) ?_)
    rintro _ w ⟨hh,cw⟩
    replace st:=st.swap (i:=2) (r':=.blk wb _) rfl cw (fun k hk=>hk) (fun k hk=>.inl (by simp only [List.mem_singleton] at hk;subst hk;simp)) (fun k hk=>.inl (by exact hk)) hh
    dsimp only [setNth] at st
    refine vp_next st.dr ?_;intro hS
    refine vp_end (vq_then (vk5 0 5 6 7 8 ?_))
    refine vdr Tryz.mixed [Yt 0,Yt 1,Yt 2,Yt 3,Yt 4,Yt 5,Yt 6,Nt 7] [.blk b5 (.cells (smL s oe ob ol ze zb zl).toArray 144 (0,0)),.blk xb (.cells (txC c rb wb).toArray 92 (0,0))] st ?_
    clear st;intro w st hS
    iterate 2 refine pm hS ?_
    refine pnk hS ?_
    refine pfz hS 5 underlying92 sizeOf90 ?_
    refine pld hS 1 isAgg90 ?_
    refine pfz hS 1 underlying144 sizeOf9 ?_
    refine pld hS 0 isAgg9 ?_
    refine vp_do rfl (e_call [_,_,_] rfl rfl call64 rfl (tmark_any (n0:=n0) c xb rb wb wb _ s.nm _ (st.res (i:=3) rfl) (st.res (i:=2) rfl) hn2 (by(simp only [mkF,mkBs_len];exact hWl)) hbw (hcx.kept (.of_chg st.chg (fun b hb hm=>absurd (hS0 b hm) (by omega))))) ?_)
    rintro _ w ⟨hh,cw⟩
    replace st:=st.swap (i:=2) (r':=.blk wb _) rfl cw (fun k hk=>hk) (fun k hk=>.inl (by simp only [List.mem_singleton] at hk;subst hk;simp)) (fun k hk=>.inl (by exact hk)) hh
    dsimp only [setNth] at st
    refine vp_next st.dr ?_;intro hS
    refine vp_end (vq_block ?_)
    refine vq_meet () ⟨rfl,rfl,rfl,rfl,rfl,trivial⟩ (by rw [if_pos (by omega),if_pos (by omega),show [s.other,s.nm]=[s.other]++[s.nm] from rfl,mkF_app];exact st) ?_
    ·trivial
   intro hc14
   try simp only [dn] at hc14
   refine sr ?_
   refine vy (y_eqi rfl rfl) ?_
   refine ya ?_
   refine et (vk6 0 5 6 7 8 40 ?_)
   refine vif ?_ ?_
   ·intro hc40
    try simp only [dn] at hc40
    refine vdr Tryz.mixed [Yt 0,Yt 1,Yt 2,Yt 3,Yt 4,Yt 5,Yt 6,Nt 7] [.blk b5 (.cells (smL s oe ob ol ze zb zl).toArray 144 (0,0)),.blk xb (.cells (txC c rb wb).toArray 92 (0,0))] st ?_
    clear st;intro w st hS
    iterate 2 refine pm hS ?_
    refine pnk hS ?_
    refine pfz hS 5 underlying92 sizeOf90 ?_
    refine pld hS 1 isAgg90 ?_
    refine pfz hS 1 underlying144 sizeOf9 ?_
    refine pld hS 0 isAgg9 ?_
    refine vp_do rfl (e_call [_,_,_] rfl rfl call64 rfl (tmark_any (n0:=n0) c xb rb wb wb _ s.nm _ (st.res (i:=3) rfl) (st.res (i:=2) rfl) hn2 (by(simp only [mkF,mkBs_len];exact hWl)) hbw (hcx.kept (.of_chg st.chg (fun b hb hm=>absurd (hS0 b hm) (by omega))))) ?_)
    rintro _ w ⟨hh,cw⟩
    replace st:=st.swap (i:=2) (r':=.blk wb _) rfl cw (fun k hk=>hk) (fun k hk=>.inl (by simp only [List.mem_singleton] at hk;subst hk;simp)) (fun k hk=>.inl (by exact hk)) hh
    dsimp only [setNth] at st
    refine vp_next st.dr ?_;intro hS
    refine vp_end (vq_block ?_)
    refine vq_meet () ⟨rfl,rfl,rfl,rfl,rfl,trivial⟩ (by rw [if_neg (by omega),if_neg (by omega),if_pos (by omega)];exact st) ?_
    ·trivial
   intro hc40
   try simp only [dn] at hc40
   refine vc_code_skip (vq_block ?_)
   refine vq_meet () ⟨rfl,rfl,rfl,rfl,rfl,trivial⟩ (by rw [if_neg (by omega),if_neg (by omega),if_neg (by omega)];exact st) ?_
   ·trivial
  clear st
  rintro ⟨⟩ w - st
  refine sr ?_
  refine ym ?_
  refine yfz 3 underlying144 sizeOf142 ?_
  refine yl st 0 isAgg142 ?_
  refine vc_e (e_call [_,_] rfl rfl call65 rfl (texprs_any c xb rb wb s.e (hok.2 j s hxs).e (hok.2 j s hxs).e.1 _ _ _ _ (st.res (i:=3) rfl) (st.res (i:=1) rfl) hn1 (by simp only [mkF,mkBs_len];exact hRl) hbr (hcx.kept (.of_chg st.chg (fun b hb hm=>absurd (hS0 b hm) (by omega)))) (ExRow.kept hre (.of_chg st.chg (fun b hb hm=>absurd (hS0 b hm) (by omega))))) ?_)
  rintro _ w ⟨hh,cw⟩
  replace st:=st.swap (i:=1) (r':=.blk rb _) rfl cw (fun k hk=>hk) (fun k hk=>.inl (by simp only [List.mem_singleton] at hk;subst hk;simp)) (fun k hk=>.inl (by exact hk)) hh
  dsimp only [setNth] at st
  refine et (vk5 0 5 6 7 8 (sr ?_))
  refine ym ?_
  refine yfz 4 underlying144 sizeOf48 ?_
  refine yl st 0 isAgg48 ?_
  refine vc_e (e_call [_,_] rfl rfl call25 rfl (hB s hsm _ _ _ _ _ (st.res (i:=3) rfl) (st.res (i:=1) rfl) (st.res (i:=2) rfl) hnd (by simp only [mkF,mkBs_len];exact hRl) (by simp only [mkF,mkBs_len];exact hWl) hbr hbw (hcx.kept (.of_chg st.chg (fun b hb hm=>absurd (hS0 b hm) (by omega)))) (SmRow.kept hrb (.of_chg st.chg (fun b hb hm=>absurd (hS0 b hm) (by omega))))) ?_)
  rintro _ w ⟨hh1,hh2,cw⟩
  replace st:=((St.swapHead2 (r':=.blk rb _) (s':=.blk wb _) (st.pick [1,2,0,3] rfl (by decide)) cw (fun k hk=>by simp only [List.mem_cons,List.not_mem_nil,or_false] at hk;rcases hk with rfl|rfl;exact .inl (.head _);exact .inr (.head _)) (fun k hk=>.inl hk) (fun k hk=>by exact hk) (fun k hk=>by exact hk) hh1 hh2).pick [2,0,1,3] rfl (by decide))
  refine et (vk5 0 5 6 7 8 (vc_region ?_))
  refine ym ?_
  refine yfz 5 underlying144 sizeOf48 ?_
  refine yl st 0 isAgg48 ?_
  refine vc_e (e_call [_,_] rfl rfl call25 rfl (hE s hsm _ _ _ _ _ (st.res (i:=3) rfl) (st.res (i:=1) rfl) (st.res (i:=2) rfl) hnd (by simp only [mkF,mkBs_len];exact hRl) (by simp only [mkF,mkBs_len];exact hWl) hbr hbw (hcx.kept (.of_chg st.chg (fun b hb hm=>absurd (hS0 b hm) (by omega)))) (SmRow.kept hrl (.of_chg st.chg (fun b hb hm=>absurd (hS0 b hm) (by omega))))) ?_)
  rintro _ w ⟨hh1,hh2,cw⟩
  replace st:=((St.swapHead2 (r':=.blk rb _) (s':=.blk wb _) (st.pick [1,2,0,3] rfl (by decide)) cw (fun k hk=>by simp only [List.mem_cons,List.not_mem_nil,or_false] at hk;rcases hk with rfl|rfl;exact .inl (.head _);exact .inr (.head _)) (fun k hk=>.inl hk) (fun k hk=>by exact hk) (fun k hk=>by exact hk) hh1 hh2).pick [2,0,1,3] rfl (by decide))
  refine vc_end (vq_block (vq_then (vk4 0 6 7 8 (vc_region ?_))))
  refine vy (y_add rfl rfl (by omega:_=((j+1:Nat):Int)) (by omega) (by omega)) ?_
  refine ym ?_
  refine vc_end ?_
  refine vq_again (j+1)  ⟨rfl,rfl,rfl,rfl,trivial⟩ (by rw [take_one hxs,rdSs_app,wrSs_app,mkF_app,mkF_app,show rdSs [s]=rdS s by simp [rdSs],show wrSs [s]=wrS s by simp [wrSs],rdS_eq,wrS_eq,mkF_app,mkF_app,mkF_app,mkF_app,mkF_app];exact st.drop (.cons _ (List.Sublist.refl _))) ?_ ?_
  ·omega
  omega
 intro hc9
 try simp only [dn] at hc9
 have hj2:j=l.length:=by omega
 subst hj2
 rw [List.take_length] at st
 refine vc_exit (vq_then_exit (vq_then_exit (vq_block_exit ?_)))
 refine vq_ret0 (.inr rfl) results25 ?_
 refine⟨_,rfl,?_⟩
 exact⟨st.res (i:=0) rfl,st.res (i:=1) rfl,st.chg⟩
mutual
theorem tbody_any (c:Cx) (xb rb wb:Nat):∀ (s:Sm),OkS s→TSs n0 c xb rb wb s.body∧TSs n0 c xb rb wb s.els
 | .mk k nm other e body els a=>fun h=>⟨tstmts_of c xb rb wb body h.body (fun s hs=>(tsms_any c xb rb wb body h.body s hs).1) (fun s hs=>(tsms_any c xb rb wb body h.body s hs).2),tstmts_of c xb rb wb els h.els (fun s hs=>(tsms_any c xb rb wb els h.els s hs).1) (fun s hs=>(tsms_any c xb rb wb els h.els s hs).2)⟩
termination_by structural s=>s
theorem tsms_any (c:Cx) (xb rb wb:Nat):∀ (l:List Sm),OkSs l→∀ s∈l,TSs n0 c xb rb wb s.body∧TSs n0 c xb rb wb s.els
 | []=>fun h e he=>by simp at he
 | x::r=>fun h e he=>by
  by_cases hx:e=x
  ·rw [hx];exact tbody_any c xb rb wb x (h.2 0 x rfl)
  ·exact tsms_any c xb rb wb r ⟨Nat.le_trans (by simp) h.1,fun j y hy=>h.2 (j+1) y (by simpa using hy)⟩ e ((List.mem_cons.1 he).resolve_left hx)
termination_by structural l=>l
end
theorem tstmts_any (c:Cx) (xb rb wb:Nat) (l:List Sm) (h:OkSs l):TSs n0 c xb rb wb l:=tstmts_of c xb rb wb l h (fun s hs=>(tsms_any c xb rb wb l h s hs).1) (fun s hs=>(tsms_any c xb rb wb l h s hs).2)
end
def ixs:List Bool→Nat→List Nat
 | [],_=>[]
 | b::r,i=>(if b=true then [i] else [])++ixs r (i+1)
theorem ixs_snoc:∀ (B:List Bool) (b:Bool) (i:Nat),ixs (B++[b]) i=ixs B i++(if b=true then [i+B.length] else [])
 | [],b,i=>by simp [ixs]
 | x::r,b,i=>by
  rw [List.cons_append,ixs,ixs,ixs_snoc r b (i+1),List.append_assoc,show i+1+r.length=i+(x::r).length by rw [List.length_cons];omega]
theorem ixs_len:∀ (B:List Bool) (i:Nat),(ixs B i).length≤B.length
 | [],i=>Nat.le_refl _
 | x::r,i=>by
  rw [ixs,List.length_append,List.length_cons]
  have:=ixs_len r (i+1)
  split <;> simp <;> omega
theorem ixs_mem:∀ (B:List Bool) (i k:Nat),k∈ixs B i↔∃ j,k=i+j∧B[j]?=some true
 | [],i,k=>by simp [ixs]
 | x::r,i,k=>by
  rw [ixs,List.mem_append,ixs_mem r (i+1) k]
  constructor
  ·rintro (h|⟨j,h1,h2⟩)
   ·cases x with
    | false=>simp at h
    | true=>
     simp at h
     exact⟨0,by omega,rfl⟩
   ·exact⟨j+1,by omega,by simpa using h2⟩
  ·rintro ⟨j,h1,h2⟩
   cases j with
   | zero=>
    simp at h2
    subst h2
    exact .inl (by simp;omega)
   | succ j=>exact .inr ⟨j,by omega,by simpa using h2⟩
theorem tset_any (B:List Bool) (bb:Nat) (n:Nat) (hn:B.length=n) (hl:n≤1099511627776) (w:World) (hb:w.heap[bb]?=some (.cells (bV B).toArray 4 (0,0))):Ret Tryz.prog 26 [.slice (some ⟨bb,0,none⟩) n n] w fun v w'=>(∃ oa c,v=.slice oa (ixs B 0).length c∧w'.ownsRow w.heap.size 3 1 (.slice oa (ixs B 0).length c) (ixs B 0).length (nV (ixs B 0)))∧Chg [] w w':=by
 subst hn
 refine ret_of [_] func26 rfl ntmps26 rfl ?_
 have st:=St.init w []
 obtain⟨w0,rfl⟩:∃ w0,w0=w:=⟨_,rfl⟩
 replace st:=(St.of1 [] hb).ownNil 3 1
 refine sr ?_
 refine ya ?_
 refine et (vk1 0 (sr ?_))
 refine ya ?_
 refine et (vk2 0 3 (vc_seq (sr ?_)))
 refine ym ?_
 refine vy (y_lensl rfl underlying90) ?_
 refine ym ?_
 refine et (vk4 3 6 7 8 (vc_block ?_))
 refine vc_loop (w0:=w0) (M:=[]) (fun (y:Nat×Option Addr×Nat)=>[(3,.slice y.2.1 (ixs (B.take y.1) 0).length y.2.2),(6,.slice (some ⟨bb,0,none⟩) B.length B.length),(7,.int .i64 (B.length:Int)),(8,.int .i64 (y.1:Int))]) (fun y=>[.own (.slice y.2.1 (ixs (B.take y.1) 0).length y.2.2) 3 1 (ixs (B.take y.1) 0).length (nV (ixs (B.take y.1) 0)),.blk bb (.cells (bV B).toArray 4 (0,0))]) (fun y w'=>y.1≤B.length) (fun y=>B.length - y.1) (0,none,0) ⟨rfl,rfl,rfl,rfl,trivial⟩ st (by simp) ?_
 clear st
 rintro ⟨j,oa,c⟩ w hj st
 dsimp only at hj st ⊢
 refine sr ?_
 refine vy (y_lss rfl rfl) ?_
 refine et (vk5 3 6 7 8 9 (vc_seq ?_))
 refine vif ?_ ?_
 ·intro hc9
  try simp only [dn] at hc9
  have hj2:j<B.length:=by omega
  obtain⟨b,hbj⟩:∃ b,B[j]?=some b:=⟨_,List.getElem?_eq_getElem hj2⟩
  have hil:=ixs_len (B.take j) 0
  have htl:(B.take j).length=j:=by rw [List.length_take];omega
  have hsn:=ixs_snoc (B.take j) b 0
  rw [← take_one hbj,Nat.zero_add,htl] at hsn
  refine kt (vk4 3 6 7 8 (vc_seq (vc_block (sr ?_))))
  refine ym ?_
  refine vy (y_ia0 (k:=j) rfl rfl underlying90 sizeOf4 rfl (by omega)) ?_
  refine vy ((by exact y_ld st 1 rfl isAgg4 rfl (by rw [nth_eq,Nat.mul_one,List.getElem?_map,hbj];rfl))) ?_
  iterate 2 refine ya ?_
  refine et (vk6 3 4 5 6 7 8 (sr ?_))
  refine ym ?_
  refine et (vk6 3 4 6 7 8 13 ?_)
  refine vif ?_ ?_
  ·intro hc13
   try simp only [dn] at hc13
   replace hc13:b=true:=hc13
   rw [hc13,if_pos rfl] at hsn
   have hsl:(ixs (B.take j) 0++[j]).length=(ixs (B.take j) 0).length+1:=by simp
   have hsv:nV (ixs (B.take j) 0++[j])=nV (ixs (B.take j) 0)++[.int .i64 (j:Int)]:=by simp
   refine vc_region ?_
   iterate 2 refine ym ?_
   refine vc_e (e_bs1 (l:=[_]) st rfl rfl rfl rfl underlying44 sizeOf3 rfl rfl rfl zeroValue3 ?_)
   intro b16 w hb16 st
   refine vc_e (e_app (bytes:=8) st 1 0 rfl rfl rfl rfl rfl rfl underlying44 Tryz.info3 rfl rfl rfl rfl rfl (by simp) rfl rfl (by unfold maxLen;omega) (by omega) ?_)
   intro oa17 cap17 w st;dsimp only [setNth] at st
   refine ya ?_
   refine vc_end (vq_block (vq_then (vk4 3 6 7 8 (vc_region ?_))))
   refine vy (y_add rfl rfl (by omega:_=((j+1:Nat):Int)) (by omega) (by omega)) ?_
   refine ym ?_
   refine vc_end ?_
   refine vq_again (j+1,oa17,cap17)  (by dsimp only;rw [hsn,hsl];exact⟨rfl,rfl,rfl,rfl,trivial⟩) (by dsimp only;rw [hsn,hsl,hsv];exact st.drop (.cons _ (List.Sublist.refl _))) ?_ ?_
   ·dsimp only;omega
   dsimp only;omega
  intro hc13
  try simp only [dn] at hc13
  replace hc13:b=false:=by simpa using hc13
  rw [hc13,if_neg (by simp),List.append_nil] at hsn
  refine vc_code_skip (vq_block (vq_then (vk4 3 6 7 8 (vc_region ?_))))
  refine vy (y_add rfl rfl (by omega:_=((j+1:Nat):Int)) (by omega) (by omega)) ?_
  refine ym ?_
  refine vc_end ?_
  refine vq_again (j+1,oa,c)  (by dsimp only;rw [hsn];exact⟨rfl,rfl,rfl,rfl,trivial⟩) (by dsimp only;rw [hsn];exact st) ?_ ?_
  ·dsimp only;omega
  dsimp only;omega
 intro hc9
 try simp only [dn] at hc9
 have hj2:j=B.length:=by omega
 subst hj2
 rw [List.take_length] at st
 refine vc_exit (vq_then_exit (vq_then_exit (vq_block_exit (vq_then (vk1 3 (sr ?_))))))
 refine ym ?_
 refine ya ?_
 refine et (vk1 2 (vc_ret ?_))
 refine vr1 st results26 ?_
 exact⟨⟨oa,c,by rw [List.take_length],st.res (i:=0) rfl⟩,st.chg⟩
theorem Tryz.info4:Tryz.prog.info? 4=some Tryz.t4:=by kernel_rfl
abbrev mkT (p:Pg) (t:Th) (l:List Wd):List Bool:=l.foldl (mkB t.locals p.shared) (List.replicate p.shared.length false)
theorem bV_repl (n:Nat):List.replicate n (Value.bool false)=bV (List.replicate n false):=by simp
set_option maxHeartbeats 2000000 in
theorem touches_any (p:Pg) (n0:Nat) (os ol ot:Option Addr) (cs cl ct:Nat) (hpg:pgOk p=true) (hok:OkP p) (hck:ckP p=true) (j:Nat) (t:Th) (ht:p.threads[j]?=some t) (w:World) (hSh:DcRow w (·<n0) os p.shared) (hL:DcRow w (·<n0) ol p.locks) (hT:ThRow w (·<n0) ot p.threads) (hn0:n0≤w.heap.size) :
    Ret Tryz.prog 9 [.agg [.slice os p.shared.length cs,.slice ol p.locks.length cl,.slice ot p.threads.length ct].toArray,.int .i64 (j:Int)] w fun v w'=>(∃ o1 c1 o2 c2,v=.tuple #[.slice o1 (ixs (mkT p t (rdSs t.body)) 0).length c1,.slice o2 (ixs (mkT p t (wrSs t.body)) 0).length c2]∧w'.ownsRow w.heap.size 3 1 (.slice o1 (ixs (mkT p t (rdSs t.body)) 0).length c1) (ixs (mkT p t (rdSs t.body)) 0).length (nV (ixs (mkT p t (rdSs t.body)) 0))∧w'.ownsRow w.heap.size 3 1 (.slice o2 (ixs (mkT p t (wrSs t.body)) 0).length c2) (ixs (mkT p t (wrSs t.body)) 0).length (nV (ixs (mkT p t (wrSs t.body)) 0)))∧Chg [] w w':=by
 refine ret_of [_,_] func9 rfl ntmps9 rfl ?_
 have st:=St.init w []
 obtain⟨w0,rfl⟩:∃ w0,w0=w:=⟨_,rfl⟩
 have ls:=hok.1.1
 have ll:=hok.2.1.1
 have lt:=hok.2.2.1
 have hjl:=(List.getElem?_eq_some_iff.1 ht).1
 have hls:p.shared.length≤64:=by
  have h:=hck
  rw [ckP_eq,Bool.and_eq_true,Bool.and_eq_true] at h
  have:=ckDs_len h.1.1 (by omega)
  omega
 have hox:=hok.2.2.2 j t ht
 obtain⟨gb,go,rfl,hgS,hgl,hg⟩:=ThRow.at hT (by omega)
 obtain⟨tl,tb,tc,td,hCx,hBx,hc⟩:=hg j t ht
 refine sr ?_
 refine vc_e (e_bx (l:=[_,_,_]) st rfl rfl rfl rfl ?_)
 intro b2 w hb2 st
 iterate 2 refine ya ?_
 refine et (vk2 1 2 (vc_seq (sr ?_)))
 refine yla st 0 [_,_,_] isAgg26 sizeOf26 ?_
 refine vc_e (e_call [_] rfl rfl call6 rfl (ccheck_any p n0 os ol (some ⟨gb,go,none⟩) cs cl ct hpg hok _ (hSh.kept st.sm) (hL.kept st.sm) (hT.kept st.sm) (Nat.le_trans hn0 st.chg.size)) ?_)
 rintro _ w ⟨⟨fp,fr,rfl⟩,cw⟩
 replace st:=st.call0 cw
 rw [hck]
 refine ym ?_
 iterate 2 refine vy (y_ext rfl rfl) ?_
 refine vc_e (e_al (l:=[_,_]) st rfl rfl zeroValue29 rfl ?_)
 intro b7 w hb7 st
 refine ya ?_
 refine vc_e (ests st 0 [_,_] sizeOf29 ?_)
 intro w st;dsimp only [setNth,wr] at st
 refine et (vk3 1 2 6 (sr ?_))
 refine ym ?_
 refine vy (y_nei rfl rfl) ?_
 refine vmb ?_ ?_
 ·intro hg16
  exfalso;revert hg16;decide
 intro hg16
 try simp only [dn] at hg16
 refine ym ?_
 refine vy (y_lss rfl rfl) ?_
 refine ypf ?_
 refine vmb ?_ ?_
 ·intro hg20
  exfalso;simp only [decide_eq_true_eq] at hg20;omega
 intro hg20
 try simp only [dn] at hg20
 refine ym ?_
 refine yfz 2 underlying26 sizeOf24 ?_
 refine yl st 1 isAgg24 ?_
 refine vy (y_lensl rfl underlying24) ?_
 refine vy (y_geq rfl rfl) ?_
 refine ypf ?_
 refine et (vk3 1 2 26 ?_)
 refine vif ?_ ?_
 ·intro hc26
  exfalso;simp only [decide_eq_true_eq] at hc26;omega
 intro hc26
 try simp only [dn] at hc26
 refine kt (vk2 1 2 (vc_seq ?_))
 refine ddr Tryz.mixed (.take 0 (.take 1 (.take 2 (.take 3 (.take 4 (.take 6 (.take 7 (.take 8 (.two 5 9 (.one 9 (.take 10 (.one 11 (.take 12 .done)))) (.one 5 (.take 10 (.one 11 (.take 12 .done))))))))))))) [.blk b2 (.cells [.slice os p.shared.length cs,.slice ol p.locks.length cl,.slice (some ⟨gb,go,none⟩) p.threads.length ct].toArray 26 (0,0))] st ?_
 clear st;intro w st hS
 refine vd_take rfl rfl rfl hS (fun w st=>y_lda (vs:=[_,_,_]) st 0 rfl isAgg26 sizeOf26 rfl rfl) ?_
 refine dm hS ?_
 refine df0 hS underlying26 sizeOf23 ?_
 refine dld hS 0 isAgg23 ?_
 refine vd_take rfl rfl rfl hS (fun w st=>y_lensl rfl underlying23) ?_
 refine df0 hS underlying26 sizeOf23 ?_
 refine dld hS 0 isAgg23 ?_
 refine vd_take rfl rfl rfl hS (fun w st=>y_lensl rfl underlying23) ?_
 refine vd_two rfl rfl ?_ ?_
 refine(e_mkN (z:=.bool false) st rfl rfl rfl rfl underlying90 Tryz.info4 rfl rfl rfl (by omega) (by show 1*_≤_;omega) (by unfold maxLen;omega) ?_)
 intro b32 w hb32 st
 refine vd_next st.dr ?_;intro hS
 refine vd_do rfl (e_mkN (z:=.bool false) st rfl rfl rfl rfl underlying90 Tryz.info4 rfl rfl rfl (by omega) (by show 1*_≤_;omega) (by unfold maxLen;omega) ?_)
 intro b36 w hb36 st
 rotate_left
 refine(e_mkN (z:=.bool false) st rfl rfl rfl rfl underlying90 Tryz.info4 rfl rfl rfl (by omega) (by show 1*_≤_;omega) (by unfold maxLen;omega) ?_)
 intro b36 w hb36 st
 refine vd_next st.dr ?_;intro hS
 refine vd_do rfl (e_mkN (z:=.bool false) st rfl rfl rfl rfl underlying90 Tryz.info4 rfl rfl rfl (by omega) (by show 1*_≤_;omega) (by unfold maxLen;omega) ?_)
 intro b32 w hb32 st
 all_goals
  refine vd_next st.dr ?_;intro hS
  refine vd_take rfl rfl rfl hS (fun w st=>ybd (.agg #[_,_,_,_,_,_]) [(0,_),(1,_),(2,_),(3,_)]) ?_
  refine vd_do rfl (e_bx (l:=[_,_,_,_,_,_]) st rfl rfl rfl rfl ?_)
  intro b38 w hb38 st
  refine vd_next st.dr ?_;intro hS
  refine vd_take rfl rfl rfl hS (fun w st=>y_as rfl) ?_
  refine vd_end (vq_then (vk3 1 2 8 (sr ?_)))
  have st1:=(st.pick [1,0,2,3,4] rfl (by decide)).ownBlk
  have st2:=(st1.pick [2,0,1,3,4] rfl (by decide)).ownBlk
  rw [bV_repl] at st2
  replace st:St w0 [] [.blk b32 (.cells (bV (List.replicate p.shared.length false)).toArray 4 (0,0)),.blk b36 (.cells (bV (List.replicate p.shared.length false)).toArray 4 (0,0)),.blk b38 (.cells (txC (⟨p,t,j,os,ol,some ⟨gb,go,none⟩,cs,cl,ct⟩:Cx) b32 b36).toArray 92 (0,0)),.blk b7 (.cells [.int .i64 fp,.int .i64 fr].toArray 29 (0,0)),.blk b2 (.cells [.slice os p.shared.length cs,.slice ol p.locks.length cl,.slice (some ⟨gb,go,none⟩) p.threads.length ct].toArray 26 (0,0))] w:=by first|exact st2|exact st2.pick [1,0,2,3,4] rfl (by decide)
  clear st1 st2
  have hndB:[b32,b36,b38].Nodup:=by
   have n1:=st.bne 0 1 (by decide) rfl rfl
   have n2:=st.bne 0 2 (by decide) rfl rfl
   have n3:=st.bne 1 2 (by decide) rfl rfl
   simp only [List.nodup_cons,List.mem_cons,List.not_mem_nil,or_false,not_or,List.nodup_nil,not_false_eq_true,and_true]
   exact⟨⟨n1,n2⟩,n3⟩
  refine ym ?_
  refine yfz 2 underlying26 sizeOf24 ?_
  refine yl st 4 isAgg24 ?_
  refine ym ?_
  refine vy (y_ia (k:=j) rfl rfl underlying24 sizeOf50 rfl (by omega)) ?_
  refine vy (y_fa (k:=2) rfl underlying50 rfl rfl sizeOf48 rfl) ?_
  refine vy (y_ldc rfl isAgg48 (st.chg.cell (hc 2 _ rfl) (by simp))) ?_
  refine vc_e (e_call [_,_] rfl rfl call25 rfl (tstmts_any (n0:=n0) (⟨p,t,j,os,ol,some ⟨gb,go,none⟩,cs,cl,ct⟩:Cx) b38 b32 b36 t.body hox.2.1 _ _ _ _ _ (st.res (i:=2) rfl) (st.res (i:=0) rfl) (st.res (i:=1) rfl) hndB (by simp) (by simp) (by omega) (by omega) ⟨hSh.kept st.sm,hL.kept st.sm,hT.kept st.sm,ht,ls,ll,lt,hox.1.1⟩ (SmRow.kept hBx st.sm)) ?_)
  rintro _ w ⟨hh1,hh2,cw⟩
  replace st:=St.swapHead2 (r':=.blk b32 _) (s':=.blk b36 _) st cw (fun k hk=>by simp only [List.mem_cons,List.not_mem_nil,or_false] at hk;rcases hk with rfl|rfl;exact .inl (.head _);exact .inr (.head _)) (fun k hk=>by simp only [List.mem_cons,List.not_mem_nil,or_false] at hk;omega) (fun k hk=>by exact hk) (fun k hk=>by exact hk) hh1 hh2
  refine et (vk1 8 (vc_seq ?_))
  refine vdr Tryz.mixed [Yt 0,Yt 1,Yt 2,Yt 3,Yt 5,Yt 6,Yt 7,Yt 8,Nt 4,Nt 9,Yt 10,Yt 11] [.blk b38 (.cells (txC (⟨p,t,j,os,ol,some ⟨gb,go,none⟩,cs,cl,ct⟩:Cx) b32 b36).toArray 92 (0,0))] st ?_
  clear st;intro w st hS
  refine pm hS ?_
  refine pnk hS ?_
  refine pfz hS 4 underlying92 sizeOf90 ?_
  refine pld hS 0 isAgg90 ?_
  refine pm hS ?_
  refine pnk hS ?_
  refine pfz hS 5 underlying92 sizeOf90 ?_
  refine pld hS 0 isAgg90 ?_
  refine vp_do rfl (e_call [_] rfl rfl call26 rfl (tset_any (mkF (⟨p,t,j,os,ol,some ⟨gb,go,none⟩,cs,cl,ct⟩:Cx) (rdSs t.body) (List.replicate p.shared.length false)) b32 p.shared.length (by simp only [mkF,mkBs_len];simp) (by omega) _ (st.res (i:=0) rfl)) ?_)
  rintro _ w ⟨⟨o1,c1,rfl,how⟩,cw⟩
  replace st:=st.pushOwn cw how
  refine vp_next st.dr ?_;intro hS
  refine vp_do rfl (e_call [_] rfl rfl call26 rfl (tset_any (mkF (⟨p,t,j,os,ol,some ⟨gb,go,none⟩,cs,cl,ct⟩:Cx) (wrSs t.body) (List.replicate p.shared.length false)) b36 p.shared.length (by simp only [mkF,mkBs_len];simp) (by omega) _ (st.res (i:=2) rfl)) ?_)
  rintro _ w ⟨⟨o2,c2,rfl,how⟩,cw⟩
  replace st:=st.pushOwn cw how
  refine vp_next st.dr ?_;intro hS
  iterate 2 refine vp_take rfl rfl rfl hS (fun w st=>y_as rfl) ?_
  refine vp_end (vq_then (vk2 4 5 (vc_ret ?_)))
  refine vq_ret2 st (.inl rfl) results9 (.tmp rfl) (.tmp rfl) ?_
  refine⟨_,rfl,?_⟩
  exact⟨⟨o1,c1,o2,c2,rfl,st.res (i:=1) rfl,st.res (i:=0) rfl⟩,st.chg⟩
end Go.Proofs.YtkhpdpenlnhbiaaGreatDoor
