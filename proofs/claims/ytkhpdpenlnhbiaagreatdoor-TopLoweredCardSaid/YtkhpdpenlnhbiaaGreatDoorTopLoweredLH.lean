/- A part of the proof: contracts of functions and plain laws; each theorem says its own conditions. -/
import Derived.Test.YtkhpdpenlnhbiaaGreatDoorTopLoweredK7
import Derived.Test.YtkhpdpenlnhbiaaGreatDoorTopLoweredLG
namespace Go.Proofs.YtkhpdpenlnhbiaaGreatDoor
open Go.RowKit Sx LexS ParS _root_.Go.Proofs.Tryz
set_option linter.unusedVariables false
set_option linter.unusedSimpArgs false
section
variable {n0:Nat}
set_option maxHeartbeats 1000000 in
theorem lgive_any (xb:Nat) (c:Cx) (Ls:LS) (gv qv:Value) (cl:List Clo) (nm:Wd) (v:Vl) (w:World) (hop:Ls.op.length≤1099511627776) (hS0:∀ k∈loS xb gv qv cl,n0≤k) (hLo:Lo c xb Ls gv qv cl w) (hcx:CxOk n0 c w) :
    Ret Tryz.prog 107 [.pointer (some ⟨xb,0,none⟩),str nm,.agg (vlC v).toArray] w fun r w'=>LoP c xb (loS xb gv qv cl) (giL c.t.locals c.p.shared nm v Ls) w w':=by
 refine ret_of [_,_,_] func107 rfl ntmps107 rfl ?_
 have st:=St.init w []
 obtain⟨w0,rfl⟩:∃ w0,w0=w:=⟨_,rfl⟩
 have hn0:n0≤w0.heap.size:=Nat.le_trans (hS0 xb (.head _)) (Nat.le_of_lt (hLo.reg.2.1 xb (.head _)))
 replace st:=St.regInit hLo.reg
 refine sr ?_
 refine vc_e (e_bx (l:=[_,_,_]) st rfl rfl rfl rfl ?_)
 intro b5 w hb5 st
 refine et (vk3 0 1 5 (vc_seq (vc_seq ?_)))
 refine vc_draw Tryz.mixed [(0,true),(1,true),(2,true),(3,true),(4,true),(5,true),(6,true),(7,true),(8,true),(9,false),(10,true)] (fun w=>St _ _ [lcR c xb,.blk b5 (.cells (vlC v).toArray 81 (0,0))] w) (by first|exact(st.pick [1,0] rfl (by decide)).lcs) (by kernel_rfl) (by repeat (first|exact okQ_noPan|exact okQ_body|exact okQ_bodyS|refine okQ_then ?_|refine okQ_block ?_)) rfl (by kernel_rfl) ?_
 intro w cd;replace st:=st.call0 cd;clear cd
 have hS:St _ _ [lcR c xb,.blk b5 (.cells (vlC v).toArray 81 (0,0))] w:=(by first|exact(st.pick [1,0] rfl (by decide)).lcs)
 refine pm hS ?_
 refine pnk hS ?_
 refine pf0 hS underlying76 sizeOf26 ?_
 refine vp_take rfl rfl rfl hS (fun w st=>(by exact y_ldca [.slice c.os c.p.shared.length c.cs,.slice c.ol c.p.locks.length c.cl,.slice c.ot c.p.threads.length c.ct] rfl isAgg26 sizeOf26 rfl (fun i v hi=>by have hp:=(st.res (i:=0) rfl).1;have:i<3:=(by have:=(List.getElem?_eq_some_iff.1 hi).1;simpa using this);rw [Nat.zero_add];exact hp i v (by rcases (by omega:i=0∨i=1∨i=2) with rfl|rfl|rfl <;> exact hi)))) ?_
 refine pm hS ?_
 refine pnk hS ?_
 refine pfz hS 3 underlying76 sizeOf3 ?_
 refine vp_take rfl rfl rfl hS (fun w st=>y_ldc rfl isAgg3 ((st.res (i:=0) rfl).1 3 _ rfl)) ?_
 refine pm hS ?_
 refine vp_do rfl (e_call [_,_,_] rfl rfl call109 rfl (clocal_any c.p c.t c.ti hcx.me c.os c.ol c.ot c.cs c.cl c.ct _ _ nm n0 _ (hcx.th.kept (.of_chg st.chg (fun b hb hm=>absurd (hS0 b hm) (by omega)))) hcx.lc) ?_)
 rintro _ w ⟨rfl,cw⟩
 replace st:=st.call0 cw
 refine vp_next (by first|exact(st.pick [1,0] rfl (by decide)).lcs) ?_;intro hS
 refine vp_take rfl rfl rfl hS (fun w st=>y_as rfl) ?_
 refine vp_end (vq_then (vk4 0 1 5 6 (sr ?_)))
 refine ym ?_
 refine vy (y_geq rfl rfl) ?_
 refine et (vk5 0 1 5 6 18 ?_)
 refine vif ?_ ?_
 ·intro hc18
  try simp only [dn] at hc18
  obtain⟨k,hk1,hk2⟩:=idxI_some (by omega:0≤idxI c.t.locals nm)
  rw [hk2]
  refine sr ?_
  iterate 2 refine ym ?_
  refine yla st 0 [_,_,_] isAgg81 sizeOf81 ?_
  refine vy (ybd (.agg #[_,_,_,_,_,_,_,_,_,_,_,_,_]) [(0,_),(2,_),(4,_)]) ?_
  refine vc_e (e_call [_,_] rfl rfl call21 rfl (lput_any c xb Ls gv qv cl (mkG 1 0 k 0 v (.num 0)) _ (st.regGet (i:=1) rfl).1 hop) ?_)
  rintro _ w ⟨rfl,gv1,qv1,cl1,pp⟩
  replace st:=st.regP (i:=1) rfl pp
  dsimp only [setNth] at st
  refine et (vc_keep [] trivial (vc_ret (vq_then_ret ?_)))
  refine vq_ret0 (.inl rfl) results107 ?_
  refine⟨_,rfl,?_⟩
  unfold giL
  rw [hk1]
  exact⟨gv1,qv1,cl1,st.regDone (i:=1) rfl⟩
 intro hc18
 try simp only [dn] at hc18
 have hno:=idxI_none (by omega:idxI c.t.locals nm<0)
 refine kt (vk3 0 1 5 ?_)
 refine vc_draw Tryz.mixed [(0,true),(1,true),(2,true),(3,true),(4,true),(5,true),(7,true),(6,false),(8,true),(9,false)] (fun w=>St _ _ [lcR c xb,.blk b5 (.cells (vlC v).toArray 81 (0,0))] w) (by first|exact(st.pick [1,0] rfl (by decide)).lcs) (by kernel_rfl) (by repeat (first|exact okQ_noPan|exact okQ_body|exact okQ_bodyS|refine okQ_then ?_|refine okQ_block ?_)) rfl (by kernel_rfl) ?_
 intro w cd;replace st:=st.call0 cd;clear cd
 have hS:St _ _ [lcR c xb,.blk b5 (.cells (vlC v).toArray 81 (0,0))] w:=(by first|exact(st.pick [1,0] rfl (by decide)).lcs)
 iterate 2 refine pm hS ?_
 refine pnk hS ?_
 refine pf0 hS underlying76 sizeOf26 ?_
 refine vp_take rfl rfl rfl hS (fun w st=>(by exact y_ldca [.slice c.os c.p.shared.length c.cs,.slice c.ol c.p.locks.length c.cl,.slice c.ot c.p.threads.length c.ct] rfl isAgg26 sizeOf26 rfl (fun i v hi=>by have hp:=(st.res (i:=0) rfl).1;have:i<3:=(by have:=(List.getElem?_eq_some_iff.1 hi).1;simpa using this);rw [Nat.zero_add];exact hp i v (by rcases (by omega:i=0∨i=1∨i=2) with rfl|rfl|rfl <;> exact hi)))) ?_
 refine pm hS ?_
 refine vp_take rfl rfl rfl hS (fun w st=>y_lda (vs:=[_,_,_]) st 1 rfl isAgg81 sizeOf81 rfl rfl) ?_
 refine vp_do rfl (e_call [_,_] rfl rfl call69 rfl (cshared_any c.p.shared c.os c.ol c.ot c.cs c.cl c.ct _ _ nm n0 _ (hcx.sh.kept (.of_chg st.chg (fun b hb hm=>absurd (hS0 b hm) (by omega)))) hcx.ls) ?_)
 rintro _ w ⟨rfl,cw⟩
 replace st:=st.call0 cw
 refine vp_next (by first|exact(st.pick [1,0] rfl (by decide)).lcs) ?_;intro hS
 refine vp_take rfl rfl rfl hS (fun w st=>ybd (.agg #[_,_,_,_,_,_,_,_,_,_,_,_,_]) [(0,_),(3,_),(4,_)]) ?_
 refine vp_do rfl (e_call [_,_] rfl rfl call21 rfl (lput_any c xb Ls gv qv cl (mkG 3 0 0 (idxI c.p.shared nm) v (.num 0)) _ (st.regGet (i:=1) rfl).1 hop) ?_)
 rintro _ w ⟨rfl,gv1,qv1,cl1,pp⟩
 replace st:=st.regP (i:=1) rfl pp
 dsimp only [setNth] at st
 refine vp_next (by first|exact(st.pick [1,0] rfl (by decide)).lcs) ?_;intro hS
 refine vp_end ?_
 refine vq_ret0 (.inr rfl) results107 ?_
 refine⟨_,rfl,?_⟩
 unfold giL
 rw [hno]
 exact⟨gv1,qv1,cl1,st.regDone (i:=1) rfl⟩
def StF (n0 xb : Nat) (c : Cx) (f : Nat) (s : Sm) : Prop := ∀ (Ls : LS), Ls.s + szS s ≤ 800000000 → max Ls.op.length 1 + szS s ≤ 800000000 → ∀ (gv qv : Value) (cl : List Clo) (l : List Value) (w : World), SmV w (· < n0) s l → (∀ k ∈ loS xb gv qv cl, n0 ≤ k) → Lo c xb Ls gv qv cl w → CxOk n0 c w →
    Ret Tryz.prog f [.pointer (some ⟨xb,0,none⟩),.agg l.toArray] w fun v w'=>LoP c xb (loS xb gv qv cl) (ParS.smL c.t.locals c.p.shared c.p.locks s Ls) w w'
def BlC (n0 xb : Nat) (c : Cx) (l : List Sm) : Prop := ∀ (Ls : LS), Ls.s + szSs l ≤ 800000000 → max Ls.op.length 1 + szSs l ≤ 800000000 → ∀ (gv qv : Value) (cl : List Clo) (oa : Option Addr) (z : Nat) (w : World), SmRow w (· < n0) oa l → (∀ k ∈ loS xb gv qv cl, n0 ≤ k) → Lo c xb Ls gv qv cl w → CxOk n0 c w →
    Ret Tryz.prog 20 [.pointer (some ⟨xb,0,none⟩),.slice oa l.length z] w fun v w'=>LoP c xb (loS xb gv qv cl) (blL c.t.locals c.p.shared c.p.locks l Ls) w w'
theorem szS_e {s:Sm} {x:Ex} (he:s.e=[x]):szE x+szSs s.body+szSs s.els+1≤szS s:=by
 cases s;simp only [Sm.e] at he;subst he;simp only [szS,szEs,Sm.body,Sm.els];omega
theorem szS_b (s:Sm):szSs s.body+szSs s.els+1≤szS s:=by
 cases s;simp only [szS,Sm.body,Sm.els];omega
set_option maxHeartbeats 1000000 in
theorem lassign_any (xb:Nat) (c:Cx) (s:Sm) (x:Ex) (hk:s.k=1) (he:s.e=[x]) (hx0:rightE x 0=true):StF n0 xb c 48 s:=by
 intro Ls hsz hop gv qv cl l w hV hS0 hLo hcx
 obtain⟨oe,ob,ol,ze,zb,zl,rfl,hre,hrb,hrl⟩:=SmV.inv hV
 refine ret_of [_,_] func48 rfl ntmps48 rfl ?_
 have st:=St.init w []
 obtain⟨w0,rfl⟩:∃ w0,w0=w:=⟨_,rfl⟩
 have hn0:n0≤w0.heap.size:=Nat.le_trans (hS0 xb (.head _)) (Nat.le_of_lt (hLo.reg.2.1 xb (.head _)))
 replace st:=St.regInit hLo.reg
 have hx:s.e[0]?=some x:=by rw [he];rfl
 obtain⟨gb,go,rfl,hgS,hgl,hg⟩:=ExRow.at hre (by rw [he];simp)
 have hgS2:gb<n0:=hgS
 obtain⟨o0,c0,hV0,hr0,hc0⟩:=hg 0 x hx
 have hl1:0<s.e.length:=by rw [he];simp
 have hzx:=szS_e he
 have hf1:=va_few' (lo:=c.t.locals) (sh:=c.p.shared) x Ls
 have hf1s:=hf1.1
 have hf1o:=hf1.2
 refine sr ?_
 refine vc_e (e_bx (l:=[_,_,_,_,_,_,_]) st rfl rfl rfl rfl ?_)
 intro b3 w hb3 st
 refine et (vk2 0 3 ?_)
 refine vdr Tryz.mixed [Yt 0,Yt 1,Yt 2,Yt 3,Yt 4,Yt 5,Yt 6,Yt 7,Nt 8,Nt 9] [.blk b3 (.cells (smL s (some ⟨gb,go,none⟩) ob ol ze zb zl).toArray 144 (0,0))] st ?_
 clear st;intro w st hS
 refine pm hS ?_
 refine pfz hS 1 underlying144 sizeOf9 ?_
 refine pld hS 0 isAgg9 ?_
 refine pm hS ?_
 refine pfz hS 3 underlying144 sizeOf142 ?_
 refine pld hS 0 isAgg142 ?_
 refine vp_take rfl rfl rfl hS (fun w st=>y_ia (k:=0) rfl rfl underlying142 sizeOf177 rfl (by omega)) ?_
 refine vp_take rfl rfl rfl hS (fun w st=>y_ldca (exL x o0 c0) rfl isAgg177 sizeOf177 rfl (fun i v hi=>st.chg.cell (hc0 i v hi) (fun hm=>absurd (hS0 gb hm) (by omega)))) ?_
 refine vp_do rfl (e_call [_,_] rfl rfl call108 rfl (lvalue_any xb c _ x rfl _ hx0 Ls (by omega) (by omega) gv qv cl _ _ (hV0.kept (.of_chg st.chg (fun b hb hm=>absurd (hS0 b hm) (by omega)))) (fun k hk=>by rcases (st.res (i:=1) rfl).1.2 k hk with h|h;exact hS0 k h;omega) (st.regGet (i:=1) rfl).1 (hcx.kept (.of_chg st.chg (fun b hb hm=>absurd (hS0 b hm) (by omega))))) ?_)
 rintro _ w ⟨rfl,gv1,qv1,cl1,pp⟩
 replace st:=st.regP (i:=1) rfl pp
 dsimp only [setNth] at st
 refine vp_next st.dr ?_;intro hS
 refine vp_do rfl (e_call [_,_,_] rfl rfl call107 rfl (lgive_any (n0:=n0) xb c (vaL c.t.locals c.p.shared x Ls).2 gv1 qv1 cl1 s.nm (vaL c.t.locals c.p.shared x Ls).1 _ (by omega) (fun k hk=>by rcases (st.res (i:=1) rfl).1.2 k hk with h|h;exact hS0 k h;omega) (st.regGet (i:=1) rfl).1 (hcx.kept (.of_chg st.chg (fun b hb hm=>absurd (hS0 b hm) (by omega))))) ?_)
 rintro _ w ⟨gv2,qv2,cl2,pp⟩
 replace st:=st.regP (i:=1) rfl pp
 dsimp only [setNth] at st
 refine vp_next st.dr ?_;intro hS
 refine vp_end ?_
 refine vq_ret0 (.inr rfl) results48 ?_
 refine⟨_,rfl,?_⟩
 rw [sm1 hk he]
 exact⟨gv2,qv2,cl2,st.regDone (i:=1) rfl⟩
set_option maxHeartbeats 1000000 in
theorem lprint_any (xb:Nat) (c:Cx) (s:Sm) (x:Ex) (hk:s.k=6) (he:s.e=[x]) (hx0:rightE x 0=true):StF n0 xb c 53 s:=by
 intro Ls hsz hop gv qv cl l w hV hS0 hLo hcx
 obtain⟨oe,ob,ol,ze,zb,zl,rfl,hre,hrb,hrl⟩:=SmV.inv hV
 refine ret_of [_,_] func53 rfl ntmps53 rfl ?_
 have st:=St.init w []
 obtain⟨w0,rfl⟩:∃ w0,w0=w:=⟨_,rfl⟩
 have hn0:n0≤w0.heap.size:=Nat.le_trans (hS0 xb (.head _)) (Nat.le_of_lt (hLo.reg.2.1 xb (.head _)))
 replace st:=St.regInit hLo.reg
 have hx:s.e[0]?=some x:=by rw [he];rfl
 obtain⟨gb,go,rfl,hgS,hgl,hg⟩:=ExRow.at hre (by rw [he];simp)
 have hgS2:gb<n0:=hgS
 obtain⟨o0,c0,hV0,hr0,hc0⟩:=hg 0 x hx
 have hl1:0<s.e.length:=by rw [he];simp
 have hzx:=szS_e he
 have hf1:=va_few' (lo:=c.t.locals) (sh:=c.p.shared) x Ls
 have hf1s:=hf1.1
 have hf1o:=hf1.2
 refine sr ?_
 refine vc_e (e_bx (l:=[_,_,_,_,_,_,_]) st rfl rfl rfl rfl ?_)
 intro b3 w hb3 st
 refine et (vk2 0 3 (vc_region ?_))
 iterate 2 refine ym ?_
 refine yfz 3 underlying144 sizeOf142 ?_
 refine yl st 0 isAgg142 ?_
 refine vy (y_ia (k:=0) rfl rfl underlying142 sizeOf177 rfl (by omega)) ?_
 refine vy (y_ldca (exL x o0 c0) rfl isAgg177 sizeOf177 rfl (fun i v hi=>st.chg.cell (hc0 i v hi) (fun hm=>absurd (hS0 gb hm) (by omega)))) ?_
 refine vc_e (e_call [_,_] rfl rfl call108 rfl (lvalue_any xb c _ x rfl _ hx0 Ls (by omega) (by omega) gv qv cl _ _ (hV0.kept (.of_chg st.chg (fun b hb hm=>absurd (hS0 b hm) (by omega)))) (fun k hk=>by rcases (st.res (i:=1) rfl).1.2 k hk with h|h;exact hS0 k h;omega) (st.regGet (i:=1) rfl).1 (hcx.kept (.of_chg st.chg (fun b hb hm=>absurd (hS0 b hm) (by omega))))) ?_)
 rintro _ w ⟨rfl,gv1,qv1,cl1,pp⟩
 replace st:=st.regP (i:=1) rfl pp
 dsimp only [setNth] at st
 refine vy (ybd (.agg #[_,_,_,_,_,_,_,_,_,_,_,_,_]) [(0,_),(4,_)]) ?_
 refine vc_e (e_call [_,_] rfl rfl call21 rfl (lput_any c xb (vaL c.t.locals c.p.shared x Ls).2 gv1 qv1 cl1 (mkG 7 0 0 0 (vaL c.t.locals c.p.shared x Ls).1 (.num 0)) _ (st.regGet (i:=1) rfl).1 (by omega)) ?_)
 rintro _ w ⟨rfl,gv2,qv2,cl2,pp⟩
 replace st:=st.regP (i:=1) rfl pp
 dsimp only [setNth] at st
 refine vc_end ?_
 refine vq_ret0 (.inr rfl) results53 ?_
 refine⟨_,rfl,?_⟩
 rw [sm6 hk he]
 exact⟨gv2,qv2,cl2,st.regDone (i:=1) rfl⟩
theorem lskip_any (xb:Nat) (c:Cx) (s:Sm) (hk:s.k=7) (he:s.e=[]):StF n0 xb c 54 s:=by
 intro Ls hsz hop gv qv cl l w hV hS0 hLo hcx
 obtain⟨oe,ob,ol,ze,zb,zl,rfl,hre,hrb,hrl⟩:=SmV.inv hV
 refine ret_of [_,_] func54 rfl ntmps54 rfl ?_
 have st:=St.init w []
 obtain⟨w0,rfl⟩:∃ w0,w0=w:=⟨_,rfl⟩
 have hn0:n0≤w0.heap.size:=Nat.le_trans (hS0 xb (.head _)) (Nat.le_of_lt (hLo.reg.2.1 xb (.head _)))
 replace st:=St.regInit hLo.reg
 refine vc_region ?_
 refine vc_e (e_bx (l:=[_,_,_,_,_,_,_]) st rfl rfl rfl rfl ?_)
 intro b3 w hb3 st
 refine vc_end ?_
 refine vq_ret0 (.inr rfl) results54 ?_
 refine⟨_,rfl,?_⟩
 rw [sm7 hk he]
 exact⟨gv,qv,cl,st.regDone (i:=1) rfl⟩
set_option maxHeartbeats 1000000 in
theorem llock_any (xb:Nat) (c:Cx) (s:Sm) (hk:s.k=5) (he:s.e=[]) (hB:BlC n0 xb c s.body):StF n0 xb c 52 s:=by
 intro Ls hsz hop gv qv cl l w hV hS0 hLo hcx
 obtain⟨oe,ob,ol,ze,zb,zl,rfl,hre,hrb,hrl⟩:=SmV.inv hV
 refine ret_of [_,_] func52 rfl ntmps52 rfl ?_
 have st:=St.init w []
 obtain⟨w0,rfl⟩:∃ w0,w0=w:=⟨_,rfl⟩
 have hn0:n0≤w0.heap.size:=Nat.le_trans (hS0 xb (.head _)) (Nat.le_of_lt (hLo.reg.2.1 xb (.head _)))
 replace st:=St.regInit hLo.reg
 have hzb:=szS_b s
 have hp1:=put_few (mkG 5 0 0 (idxI c.p.locks s.nm) (.num 0) (.num 0)) Ls
 have hp1s:=hp1.1
 have hp1o:=hp1.2
 have hb1:=bl_few (lo:=c.t.locals) (sh:=c.p.shared) (lk:=c.p.locks) s.body (putL (mkG 5 0 0 (idxI c.p.locks s.nm) (.num 0) (.num 0)) Ls)
 have hb1s:=hb1.1
 have hb1o:=hb1.2
 refine sr ?_
 refine vc_e (e_bx (l:=[_,_,_,_,_,_,_]) st rfl rfl rfl rfl ?_)
 intro b3 w hb3 st
 refine et (vk2 0 3 (vc_seq ?_))
 refine vc_draw Tryz.mixed [(0,true),(1,true),(2,true),(3,true),(4,true),(5,true),(6,false),(7,true)] (fun w=>St _ _ [lcR c xb,.blk b3 (.cells (smL s oe ob ol ze zb zl).toArray 144 (0,0))] w) ((st.pick [1,0] rfl (by decide)).lcs) (by kernel_rfl) (by repeat (first|exact okQ_noPan|exact okQ_body|exact okQ_bodyS|refine okQ_then ?_|refine okQ_block ?_)) rfl (by kernel_rfl) ?_
 intro w cd;replace st:=st.call0 cd;clear cd
 have hS:St _ _ [lcR c xb,.blk b3 (.cells (smL s oe ob ol ze zb zl).toArray 144 (0,0))] w:=((st.pick [1,0] rfl (by decide)).lcs)
 refine pm hS ?_
 refine pnk hS ?_
 refine pf0 hS underlying76 sizeOf26 ?_
 refine vp_take rfl rfl rfl hS (fun w st=>(by exact y_ldca [.slice c.os c.p.shared.length c.cs,.slice c.ol c.p.locks.length c.cl,.slice c.ot c.p.threads.length c.ct] rfl isAgg26 sizeOf26 rfl (fun i v hi=>by have hp:=(st.res (i:=0) rfl).1;have:i<3:=(by have:=(List.getElem?_eq_some_iff.1 hi).1;simpa using this);rw [Nat.zero_add];exact hp i v (by rcases (by omega:i=0∨i=1∨i=2) with rfl|rfl|rfl <;> exact hi)))) ?_
 refine pfz hS 1 underlying144 sizeOf9 ?_
 refine pld hS 1 isAgg9 ?_
 refine vp_do rfl (e_call [_,_] rfl rfl call70 rfl (clock_any c.p.locks c.os c.ol c.ot c.cs c.cl c.ct _ _ s.nm n0 _ (hcx.lk.kept (.of_chg st.chg (fun b hb hm=>absurd (hS0 b hm) (by omega)))) hcx.ll) ?_)
 rintro _ w ⟨rfl,cw⟩
 replace st:=st.call0 cw
 refine vp_next ((st.pick [1,0] rfl (by decide)).lcs) ?_;intro hS
 refine vp_take rfl rfl rfl hS (fun w st=>y_as rfl) ?_
 refine vp_end (vq_then (vk3 0 3 4 (sr ?_)))
 iterate 2 refine ym ?_
 refine vy (ybd (.agg #[_,_,_,_,_,_,_,_,_,_,_,_,_]) [(0,_),(3,_)]) ?_
 refine vc_e (e_call [_,_] rfl rfl call21 rfl (lput_any c xb Ls gv qv cl (mkG 5 0 0 (idxI c.p.locks s.nm) (.num 0) (.num 0)) _ (st.regGet (i:=1) rfl).1 (by omega)) ?_)
 rintro _ w ⟨rfl,gv1,qv1,cl1,pp⟩
 replace st:=st.regP (i:=1) rfl pp
 dsimp only [setNth] at st
 refine et (vk3 0 3 4 (sr ?_))
 refine ym ?_
 refine yfz 4 underlying144 sizeOf48 ?_
 refine yl st 0 isAgg48 ?_
 refine vc_e (e_call [_,_] rfl rfl call20 rfl (hB (putL (mkG 5 0 0 (idxI c.p.locks s.nm) (.num 0) (.num 0)) Ls) (by omega) (by omega) gv1 qv1 cl1 _ _ _ (hrb.kept (.of_chg st.chg (fun b hb hm=>absurd (hS0 b hm) (by omega)))) (fun k hk=>by rcases (st.res (i:=1) rfl).1.2 k hk with h|h;exact hS0 k h;omega) (st.regGet (i:=1) rfl).1 (hcx.kept (.of_chg st.chg (fun b hb hm=>absurd (hS0 b hm) (by omega))))) ?_)
 rintro _ w ⟨gv2,qv2,cl2,pp⟩
 replace st:=st.regP (i:=1) rfl pp
 dsimp only [setNth] at st
 refine et (vk2 0 4 (vc_region ?_))
 iterate 2 refine ym ?_
 refine vy (ybd (.agg #[_,_,_,_,_,_,_,_,_,_,_,_,_]) [(0,_),(3,_)]) ?_
 refine vc_e (e_call [_,_] rfl rfl call21 rfl (lput_any c xb (blL c.t.locals c.p.shared c.p.locks s.body (putL (mkG 5 0 0 (idxI c.p.locks s.nm) (.num 0) (.num 0)) Ls)) gv2 qv2 cl2 (mkG 6 0 0 (idxI c.p.locks s.nm) (.num 0) (.num 0)) _ (st.regGet (i:=1) rfl).1 (by omega)) ?_)
 rintro _ w ⟨rfl,gv3,qv3,cl3,pp⟩
 replace st:=st.regP (i:=1) rfl pp
 dsimp only [setNth] at st
 refine vc_end ?_
 refine vq_ret0 (.inr rfl) results52 ?_
 refine⟨_,rfl,?_⟩
 rw [sm5 hk he]
 exact⟨gv3,qv3,cl3,st.regDone (i:=1) rfl⟩
set_option maxHeartbeats 1000000 in
theorem lswap_any (xb:Nat) (c:Cx) (s:Sm) (x:Ex) (hk:s.k=2) (he:s.e=[x]) (hx0:rightE x 0=true):StF n0 xb c 49 s:=by
 intro Ls hsz hop gv qv cl l w hV hS0 hLo hcx
 obtain⟨oe,ob,ol,ze,zb,zl,rfl,hre,hrb,hrl⟩:=SmV.inv hV
 refine ret_of [_,_] func49 rfl ntmps49 rfl ?_
 have st:=St.init w []
 obtain⟨w0,rfl⟩:∃ w0,w0=w:=⟨_,rfl⟩
 have hn0:n0≤w0.heap.size:=Nat.le_trans (hS0 xb (.head _)) (Nat.le_of_lt (hLo.reg.2.1 xb (.head _)))
 replace st:=St.regInit hLo.reg
 have hx:s.e[0]?=some x:=by rw [he];rfl
 obtain⟨gb,go,rfl,hgS,hgl,hg⟩:=ExRow.at hre (by rw [he];simp)
 have hgS2:gb<n0:=hgS
 obtain⟨o0,c0,hV0,hr0,hc0⟩:=hg 0 x hx
 have hl1:0<s.e.length:=by rw [he];simp
 have hzx:=szS_e he
 have hf1:=va_few' (lo:=c.t.locals) (sh:=c.p.shared) x Ls
 have hf1s:=hf1.1
 have hf1o:=hf1.2
 have hpf:=put_few (mkG 4 0 (vaL c.t.locals c.p.shared x Ls).2.s (idxI c.p.shared s.other) (vaL c.t.locals c.p.shared x Ls).1 (.num 0)) (slotL (vaL c.t.locals c.p.shared x Ls).2)
 have hpfo:=hpf.2
 have hslo:(slotL (vaL c.t.locals c.p.shared x Ls).2).op=(vaL c.t.locals c.p.shared x Ls).2.op:=rfl
 rw [hslo] at hpfo
 refine sr ?_
 refine vc_e (e_bx (l:=[_,_,_,_,_,_,_]) st rfl rfl rfl rfl ?_)
 intro b3 w hb3 st
 refine et (vk2 0 3 (vc_seq ?_))
 refine vd_draw Tryz.mixed (.take 0 (.take 1 (.take 2 (.take 3 (.take 4 (.take 6 (.take 7 (.take 8 (.take 9 (.take 10 (.take 11 (.two 5 14 (.two 12 14 (.take 13 (.one 14 (.one 15 .done))) (.one 12 (.take 13 (.one 15 .done)))) (.one 5 (.one 12 (.take 13 (.one 15 .done)))))))))))))))) (fun w=>St _ _ [lcR c xb,.blk b3 (.cells (smL s (some ⟨gb,go,none⟩) ob ol ze zb zl).toArray 144 (0,0))] w) (by exact(st.pick [1,0] rfl (by decide)).lcs) (by kernel_rfl) (by repeat (first|exact okQ_noPan|exact okQ_body|exact okQ_bodyS|refine okQ_then ?_|refine okQ_block ?_)) rfl (by kernel_rfl) ?_
 intro w cd;replace st:=st.call0 cd;clear cd
 have hS:St _ _ [lcR c xb,.blk b3 (.cells (smL s (some ⟨gb,go,none⟩) ob ol ze zb zl).toArray 144 (0,0))] w:=(by exact(st.pick [1,0] rfl (by decide)).lcs)
 refine dm hS ?_
 refine dfz hS 3 underlying144 sizeOf142 ?_
 refine dld hS 1 isAgg142 ?_
 refine vd_take rfl rfl rfl hS (fun w st=>y_ia (k:=0) rfl rfl underlying142 sizeOf177 rfl (by omega)) ?_
 refine vd_take rfl rfl rfl hS (fun w st=>y_ldca (exL x o0 c0) rfl isAgg177 sizeOf177 rfl (fun i v hi=>st.chg.cell (hc0 i v hi) (fun hm=>absurd (hS0 gb hm) (by omega)))) ?_
 refine dm hS ?_
 refine dnk hS ?_
 refine df0 hS underlying76 sizeOf26 ?_
 refine vd_take rfl rfl rfl hS (fun w st=>(by exact y_ldca [.slice c.os c.p.shared.length c.cs,.slice c.ol c.p.locks.length c.cl,.slice c.ot c.p.threads.length c.ct] rfl isAgg26 sizeOf26 rfl (fun i v hi=>by have hp:=(st.res (i:=0) rfl).1;have:i<3:=(by have:=(List.getElem?_eq_some_iff.1 hi).1;simpa using this);rw [Nat.zero_add];exact hp i v (by rcases (by omega:i=0∨i=1∨i=2) with rfl|rfl|rfl <;> exact hi)))) ?_
 refine dfz hS 2 underlying144 sizeOf9 ?_
 refine dld hS 1 isAgg9 ?_
 refine vd_two rfl rfl ?_ ?_
 focus
  refine(e_call [_,_] rfl rfl call108 rfl (by exact(lvalue_any xb c _ x rfl _ hx0 Ls (by omega) (by omega) gv qv cl _ _ (hV0.kept (.of_chg st.chg (fun b hb hm=>absurd (hS0 b hm) (by omega)))) (fun k hk=>by rcases (st.res (i:=1) rfl).1.2 k hk with h|h;exact hS0 k h;omega) (st.regGet (i:=1) rfl).1 (hcx.kept (.of_chg st.chg (fun b hb hm=>absurd (hS0 b hm) (by omega)))))) ?_)
  rintro _ w ⟨rfl,gv1,qv1,cl1,pp⟩
  replace st:=st.regP (i:=1) rfl pp
  dsimp only [setNth] at st
  refine vd_next (by exact(st.pick [1,0] rfl (by decide)).lcs) ?_;intro hS
  refine vd_two rfl rfl ?_ ?_
  refine(e_call [_,_] rfl rfl call69 rfl (cshared_any c.p.shared c.os c.ol c.ot c.cs c.cl c.ct _ _ s.other n0 _ (hcx.sh.kept (.of_chg st.chg (fun b hb hm=>absurd (hS0 b hm) (by omega)))) hcx.ls) ?_)
  rintro _ w ⟨rfl,cw⟩
  replace st:=st.call0 cw
  refine vd_next (by exact(st.pick [1,0] rfl (by decide)).lcs) ?_;intro hS
  refine vd_take rfl rfl rfl hS (fun w st=>ybd (.agg #[_,_,_,_,_,_,_,_,_,_,_,_,_]) [(0,_),(4,_),(3,_)]) ?_
  refine vd_do rfl (e_al (l:=[_,_,_,_,_,_,_,_,_,_,_,_,_]) st rfl rfl zeroValue83 rfl ?_)
  intro b4 w hb4 st
  refine vd_next (by exact(st.pick [2,1] rfl (by decide)).lcs) ?_;intro hS
  rotate_left
  refine(e_al (l:=[_,_,_,_,_,_,_,_,_,_,_,_,_]) st rfl rfl zeroValue83 rfl ?_)
  intro b4 w hb4 st
  refine vd_next (by exact(st.pick [2,1] rfl (by decide)).lcs) ?_;intro hS
  refine vd_do rfl (e_call [_,_] rfl rfl call69 rfl (cshared_any c.p.shared c.os c.ol c.ot c.cs c.cl c.ct _ _ s.other n0 _ (hcx.sh.kept (.of_chg st.chg (fun b hb hm=>absurd (hS0 b hm) (by omega)))) hcx.ls) ?_)
  rintro _ w ⟨rfl,cw⟩
  replace st:=st.call0 cw
  refine vd_next (by exact(st.pick [2,1] rfl (by decide)).lcs) ?_;intro hS
  refine vd_take rfl rfl rfl hS (fun w st=>ybd (.agg #[_,_,_,_,_,_,_,_,_,_,_,_,_]) [(0,_),(4,_),(3,_)]) ?_
 rotate_left 2
 refine(e_al (l:=[_,_,_,_,_,_,_,_,_,_,_,_,_]) st rfl rfl zeroValue83 rfl ?_)
 intro b4 w hb4 st
 refine vd_next (by exact(st.pick [2,1] rfl (by decide)).lcs) ?_;intro hS
 refine vd_do rfl (e_call [_,_] rfl rfl call108 rfl (by exact(lvalue_any xb c _ x rfl _ hx0 Ls (by omega) (by omega) gv qv cl _ _ (hV0.kept (.of_chg st.chg (fun b hb hm=>absurd (hS0 b hm) (by omega)))) (fun k hk=>by rcases (st.res (i:=2) rfl).1.2 k hk with h|h;exact hS0 k h;omega) (st.regGet (i:=2) rfl).1 (hcx.kept (.of_chg st.chg (fun b hb hm=>absurd (hS0 b hm) (by omega)))))) ?_)
 rintro _ w ⟨rfl,gv1,qv1,cl1,pp⟩
 replace st:=st.regP (i:=2) rfl pp
 dsimp only [setNth] at st
 refine vd_next (by exact(st.pick [2,1] rfl (by decide)).lcs) ?_;intro hS
 refine vd_do rfl (e_call [_,_] rfl rfl call69 rfl (cshared_any c.p.shared c.os c.ol c.ot c.cs c.cl c.ct _ _ s.other n0 _ (hcx.sh.kept (.of_chg st.chg (fun b hb hm=>absurd (hS0 b hm) (by omega)))) hcx.ls) ?_)
 rintro _ w ⟨rfl,cw⟩
 replace st:=st.call0 cw
 refine vd_next (by exact(st.pick [2,1] rfl (by decide)).lcs) ?_;intro hS
 refine vd_take rfl rfl rfl hS (fun w st=>ybd (.agg #[_,_,_,_,_,_,_,_,_,_,_,_,_]) [(0,_),(4,_),(3,_)]) ?_
 all_goals
  refine vd_do rfl (ests st 0 [_,_,_,_,_,_,_,_,_,_,_,_,_] sizeOf83 ?_)
  intro w st;dsimp only [setNth,wr] at st
  refine vd_next (by exact(st.pick [2,1] rfl (by decide)).lcs) ?_;intro hS
  refine vd_end (vq_then (vk3 0 3 4 (vc_seq ?_)))
  refine vc_draw Tryz.mixed [(0,true),(1,true),(2,true),(3,true),(4,true),(5,true),(6,true),(7,true),(8,true),(9,true),(10,false),(11,true)] (fun w=>St _ _ [lcR c xb,.blk b3 (.cells (smL s (some ⟨gb,go,none⟩) ob ol ze zb zl).toArray 144 (0,0))] w) (by exact(st.pick [2,1] rfl (by decide)).lcs) (by kernel_rfl) (by repeat (first|exact okQ_noPan|exact okQ_body|exact okQ_bodyS|refine okQ_then ?_|refine okQ_block ?_)) rfl (by kernel_rfl) ?_
  intro w cd;replace st:=st.call0 cd;clear cd
  have hS:St _ _ [lcR c xb,.blk b3 (.cells (smL s (some ⟨gb,go,none⟩) ob ol ze zb zl).toArray 144 (0,0))] w:=(by exact(st.pick [2,1] rfl (by decide)).lcs)
  refine pm hS ?_
  refine pnk hS ?_
  refine pf0 hS underlying76 sizeOf26 ?_
  refine vp_take rfl rfl rfl hS (fun w st=>(by exact y_ldca [.slice c.os c.p.shared.length c.cs,.slice c.ol c.p.locks.length c.cl,.slice c.ot c.p.threads.length c.ct] rfl isAgg26 sizeOf26 rfl (fun i v hi=>by have hp:=(st.res (i:=0) rfl).1;have:i<3:=(by have:=(List.getElem?_eq_some_iff.1 hi).1;simpa using this);rw [Nat.zero_add];exact hp i v (by rcases (by omega:i=0∨i=1∨i=2) with rfl|rfl|rfl <;> exact hi)))) ?_
  refine pm hS ?_
  refine pnk hS ?_
  refine pfz hS 3 underlying76 sizeOf3 ?_
  refine vp_take rfl rfl rfl hS (fun w st=>y_ldc rfl isAgg3 ((st.res (i:=0) rfl).1 3 _ rfl)) ?_
  refine pfz hS 1 underlying144 sizeOf9 ?_
  refine pld hS 1 isAgg9 ?_
  refine vp_do rfl (e_call [_,_,_] rfl rfl call109 rfl (clocal_any c.p c.t c.ti hcx.me c.os c.ol c.ot c.cs c.cl c.ct _ _ s.nm n0 _ (hcx.th.kept (.of_chg st.chg (fun b hb hm=>absurd (hS0 b hm) (by omega)))) hcx.lc) ?_)
  rintro _ w ⟨rfl,cw⟩
  replace st:=st.call0 cw
  refine vp_next (by exact(st.pick [2,1] rfl (by decide)).lcs) ?_;intro hS
  refine vp_take rfl rfl rfl hS (fun w st=>y_as rfl) ?_
  refine vp_end (vq_then (vk4 0 3 4 5 (vc_seq (sr ?_))))
  refine ym ?_
  refine vy (y_geq rfl rfl) ?_
  refine et (vk5 0 3 4 5 32 ?_)
  refine vif ?_ ?_
  ·intro hc32
   try simp only [dn] at hc32
   obtain⟨k,hk1,hk2⟩:=idxI_some (by omega:0≤idxI c.t.locals s.nm)
   rw [hk2]
   refine sr ?_
   refine ym ?_
   refine yfz 2 underlying83 sizeOf3 ?_
   refine vc_e (est st 0 sizeOf3 ?_)
   intro w st;dsimp only [setNth,wr] at st
   refine et (vk2 0 4 (sr ?_))
   refine ym ?_
   refine yla st 0 [_,_,_,_,_,_,_,_,_,_,_,_,_] isAgg83 sizeOf83 ?_
   refine vc_e (e_call [_,_] rfl rfl call21 rfl (lput_any c xb (vaL c.t.locals c.p.shared x Ls).2 gv1 qv1 cl1 (mkG 4 0 k (idxI c.p.shared s.other) (vaL c.t.locals c.p.shared x Ls).1 (.num 0)) _ (st.regGet (i:=2) rfl).1 (by omega)) ?_)
   rintro _ w ⟨rfl,gv2,qv2,cl2,pp⟩
   replace st:=st.regP (i:=2) rfl pp
   dsimp only [setNth] at st
   refine et (vc_keep [] trivial (vc_ret (vq_then_ret ?_)))
   refine vq_ret0 (.inl rfl) results49 ?_
   refine⟨_,rfl,?_⟩
   rw [sm2 hk he,swL,hk1]
   exact⟨gv2,qv2,cl2,st.regDone (i:=2) rfl⟩
  ·intro hc32
   try simp only [dn] at hc32
   have hno:=idxI_none (by omega:idxI c.t.locals s.nm<0)
   refine kt (vk3 0 3 4 (sr ?_))
   refine ym ?_
   refine vc_e (e_call [_] rfl rfl call110 rfl (lslot_any c xb (vaL c.t.locals c.p.shared x Ls).2 (by omega) gv1 qv1 cl1 _ (st.regGet (i:=2) rfl).1) ?_)
   rintro _ w ⟨rfl,pp⟩
   replace st:=st.regP (i:=2) rfl pp
   dsimp only [setNth] at st
   refine yfz 2 underlying83 sizeOf3 ?_
   refine vc_e (est st 0 sizeOf3 ?_)
   intro w st;dsimp only [setNth,wr] at st
   refine et (vk3 0 3 4 (sr ?_))
   refine ym ?_
   refine yla st 0 [_,_,_,_,_,_,_,_,_,_,_,_,_] isAgg83 sizeOf83 ?_
   refine vc_e (e_call [_,_] rfl rfl call21 rfl (lput_any c xb (slotL (vaL c.t.locals c.p.shared x Ls).2) gv1 qv1 cl1 (mkG 4 0 (vaL c.t.locals c.p.shared x Ls).2.s (idxI c.p.shared s.other) (vaL c.t.locals c.p.shared x Ls).1 (.num 0)) _ (st.regGet (i:=2) rfl).1 (by show (vaL c.t.locals c.p.shared x Ls).2.op.length≤_;omega)) ?_)
   rintro _ w ⟨rfl,gv2,qv2,cl2,pp⟩
   replace st:=st.regP (i:=2) rfl pp
   dsimp only [setNth] at st
   refine et (vk3 0 3 4 ?_)
   refine vdr Tryz.mixed [Yt 0,Yt 1,Yt 2,Yt 3,Yt 4,Nt 5,Nt 6] [.blk b4 (.cells (gnC (mkG 4 0 (vaL c.t.locals c.p.shared x Ls).2.s (idxI c.p.shared s.other) (vaL c.t.locals c.p.shared x Ls).1 (.num 0)) 0).toArray 83 (0,0)),.blk b3 (.cells (smL s (some ⟨gb,go,none⟩) ob ol ze zb zl).toArray 144 (0,0))] st ?_
   clear st;intro w st hS
   refine pm hS ?_
   refine pfz hS 1 underlying144 sizeOf9 ?_
   refine pld hS 1 isAgg9 ?_
   refine pfz hS 2 underlying83 sizeOf3 ?_
   refine pld hS 0 isAgg3 ?_
   refine vp_do rfl (e_call [_] rfl rfl call111 rfl (lin_any _ _) ?_)
   rintro _ w ⟨rfl,cw⟩
   replace st:=st.call0 cw
   refine vp_next st.dr ?_;intro hS
   refine vp_do rfl (e_call [_,_,_] rfl rfl call107 rfl (lgive_any (n0:=n0) xb c (putL (mkG 4 0 (vaL c.t.locals c.p.shared x Ls).2.s (idxI c.p.shared s.other) (vaL c.t.locals c.p.shared x Ls).1 (.num 0)) (slotL (vaL c.t.locals c.p.shared x Ls).2)) gv2 qv2 cl2 s.nm (.slot (vaL c.t.locals c.p.shared x Ls).2.s) _ (by omega) (fun k hk=>by rcases (st.res (i:=2) rfl).1.2 k hk with h|h;exact hS0 k h;omega) (st.regGet (i:=2) rfl).1 (hcx.kept (.of_chg st.chg (fun b hb hm=>absurd (hS0 b hm) (by omega))))) ?_)
   rintro _ w ⟨gv3,qv3,cl3,pp⟩
   replace st:=st.regP (i:=2) rfl pp
   dsimp only [setNth] at st
   refine vp_next st.dr ?_;intro hS
   refine vp_end ?_
   refine vq_ret0 (.inr rfl) results49 ?_
   refine⟨_,rfl,?_⟩
   rw [sm2 hk he,swL,hno]
   exact⟨gv3,qv3,cl3,st.regDone (i:=2) rfl⟩
end
end Go.Proofs.YtkhpdpenlnhbiaaGreatDoor
