/- A part of the proof: contracts of functions and plain laws; each theorem says its own conditions. -/
import Derived.Test.YtkhpdpenlnhbiaaGreatDoorTopLoweredK7
import Derived.Test.YtkhpdpenlnhbiaaGreatDoorTopLoweredLH
namespace Go.Proofs.YtkhpdpenlnhbiaaGreatDoor
open Go.RowKit Sx LexS ParS _root_.Go.Proofs.Tryz
set_option linter.unusedVariables false
set_option linter.unusedSimpArgs false
theorem clB_app (a b:List Clo):clB (a++b)=clB a++clB b:=by simp [clB]
theorem _root_.Sx.St.clJoin {w0 w:World} {M:List Nat} {hs:List Res} {xb:Nat} {a b:List Clo} (st:St w0 M (clR M w0.heap.size xb a::clR M w0.heap.size xb b::hs) w):St w0 M (clR M w0.heap.size xb (a++b)::hs) w:=by
 obtain⟨b1,b2⟩:=List.pairwise_cons.1 st.nodup
 obtain⟨b2,b3⟩:=List.pairwise_cons.1 b2
 have h1:=(st.res (i:=0) rfl).1
 have h2:=(st.res (i:=1) rfl).1
 refine(st.drop (hs':=hs) (.cons _ (.cons _ (List.Sublist.refl _)))).add (clR_holds ?_ ?_) ?_
 ·intro q hq
  rcases List.mem_append.1 hq with hq|hq
  ·exact h1.1 q hq
  ·exact h2.1 q hq
 ·intro k hk
  rw [clB_app] at hk
  rcases List.mem_append.1 hk with hk|hk
  ·exact h1.2 k hk
  ·exact h2.2 k hk
 intro x hx k hk
 rw [clR_at,clB_app] at hk
 rcases List.mem_append.1 hk with hk|hk
 ·exact b1 x (.tail _ hx) k hk
 ·exact b2 x hx k hk
theorem _root_.Sx.St.opTo {w0 w:World} {M:List Nat} {hs:List Res} {i n:Nat} {v:Value} {xs:List Value} {q:List Clo} (st:St w0 M hs w) (hi:nth hs i=some (frnZ M w0.heap.size 124 1 v n xs)) (hn:n=q.length) (hx:xs=q.map clV):St w0 M (setNth hs i (opR M w0.heap.size v q)) w:=by
 subst hn hx
 exact st.swap (C:=[]) hi (Chg.refl _ _) (by simp) (by simp) (fun k hk=>.inl hk) (st.res hi)
theorem clV_one {q:List Clo}:∀ u∈q.map clV,u.oneCell'=true:=by
 intro u hu
 obtain⟨x,-,rfl⟩:=List.mem_map.1 hu
 rfl
section
variable {n0:Nat}
set_option maxHeartbeats 1000000 in
theorem lcond_any (xb:Nat) (c:Cx) (s:Sm) (x:Ex) (hk:s.k=3) (he:s.e=[x]) (hx0:rightE x 0=true) (hB:BlC n0 xb c s.body) (hE:BlC n0 xb c s.els):StF n0 xb c 50 s:=by
 intro Ls hsz hop gv qv cl l w hV hS0 hLo hcx
 obtain⟨oe,ob,ol,ze,zb,zl,rfl,hre,hrb,hrl⟩:=SmV.inv hV
 refine ret_of [_,_] func50 rfl ntmps50 rfl ?_
 have st:=St.init w []
 obtain⟨w0,rfl⟩:∃ w0,w0=w:=⟨_,rfl⟩
 have hn0:n0≤w0.heap.size:=Nat.le_trans (hS0 xb (.head _)) (Nat.le_of_lt (hLo.reg.2.1 xb (.head _)))
 replace st:=St.regInit hLo.reg
 have hx:s.e[0]?=some x:=by rw [he];rfl
 obtain⟨gb,go,rfl,hgS,hgl,hg⟩:=ExRow.at hre (by rw [he];simp)
 have hgS2:gb<n0:=hgS
 obtain⟨o0,c0,hV0,hr0,hc0⟩:=hg 0 x hx
 have hl1:0<s.e.length:=by rw [he];simp
 have hzx:=szS_e he
 have hf1:=va_few' (lo:=c.t.locals) (sh:=c.p.shared) x Ls
 have hf1s:=hf1.1
 have hf1o:=hf1.2
 have hp1:=put_few (mkG 8 0 0 0 (vaL c.t.locals c.p.shared x Ls).1 (.num 0)) (vaL c.t.locals c.p.shared x Ls).2
 have hp1s:(brL (vaL c.t.locals c.p.shared x Ls).1 (vaL c.t.locals c.p.shared x Ls).2).s≤(vaL c.t.locals c.p.shared x Ls).2.s+0:=hp1.1
 have hp1o:max (brL (vaL c.t.locals c.p.shared x Ls).1 (vaL c.t.locals c.p.shared x Ls).2).op.length 1≤max (vaL c.t.locals c.p.shared x Ls).2.op.length 1+0:=hp1.2
 have hb1:Few (szSs s.body) (brL (vaL c.t.locals c.p.shared x Ls).1 (vaL c.t.locals c.p.shared x Ls).2) (c2L (lo:=c.t.locals) (sh:=c.p.shared) (lk:=c.p.locks) s.body (vaL c.t.locals c.p.shared x Ls)):=bl_few s.body _
 have hb1s:=hb1.1
 have hb1o:=hb1.2
 have hnl:putAt (vaL c.t.locals c.p.shared x Ls).2<(c2L (lo:=c.t.locals) (sh:=c.p.shared) (lk:=c.p.locks) s.body (vaL c.t.locals c.p.shared x Ls)).N.length:=Nat.lt_of_lt_of_le (putAt_lt (mkG 8 0 0 0 (vaL c.t.locals c.p.shared x Ls).1 (.num 0)) (vaL c.t.locals c.p.shared x Ls).2) (bl_nlen s.body _)
 refine sr ?_
 refine vc_e (e_bx (l:=[_,_,_,_,_,_,_]) st rfl rfl rfl rfl ?_)
 intro b3 w hb3 st
 refine et (vk2 0 3 (sr ?_))
 iterate 2 refine ym ?_
 refine yfz 3 underlying144 sizeOf142 ?_
 refine yl st 0 isAgg142 ?_
 refine vy (y_ia (k:=0) rfl rfl underlying142 sizeOf177 rfl (by omega)) ?_
 refine vy (y_ldca (exL x o0 c0) rfl isAgg177 sizeOf177 rfl (fun i v hi=>st.chg.cell (hc0 i v hi) (fun hm=>absurd (hS0 gb hm) (by omega)))) ?_
 refine vc_e (e_call [_,_] rfl rfl call108 rfl (lvalue_any xb c _ x rfl _ hx0 Ls (by omega) (by omega) gv qv cl _ _ (hV0.kept (.of_chg st.chg (fun b hb hm=>absurd (hS0 b hm) (by omega)))) (fun k hk=>by rcases (st.res (i:=1) rfl).1.2 k hk with h|h;exact hS0 k h;omega) (st.regGet (i:=1) rfl).1 (hcx.kept (.of_chg st.chg (fun b hb hm=>absurd (hS0 b hm) (by omega))))) ?_)
 rintro _ w ⟨rfl,gv1,qv1,cl1,pp⟩
 replace st:=st.regP (i:=1) rfl pp
 dsimp only [setNth] at st
 refine vy (ybd (.agg #[_,_,_,_,_,_,_,_,_,_,_,_,_]) [(0,_),(4,_)]) ?_
 refine vc_e (e_call [_,_] rfl rfl call21 rfl (lput_any c xb (vaL c.t.locals c.p.shared x Ls).2 gv1 qv1 cl1 (mkG 8 0 0 0 (vaL c.t.locals c.p.shared x Ls).1 (.num 0)) _ (st.regGet (i:=1) rfl).1 (by omega)) ?_)
 rintro _ w ⟨rfl,gv2,qv2,cl2,pp⟩
 replace st:=st.regP (i:=1) rfl pp
 dsimp only [setNth] at st
 refine ya ?_
 refine et (vk3 0 3 4 (sr ?_))
 refine ym ?_
 refine yfz 4 underlying144 sizeOf48 ?_
 refine yl st 0 isAgg48 ?_
 refine vc_e (e_call [_,_] rfl rfl call20 rfl (hB (brL (vaL c.t.locals c.p.shared x Ls).1 (vaL c.t.locals c.p.shared x Ls).2) (by omega) (by omega) gv2 qv2 cl2 _ _ _ (hrb.kept (.of_chg st.chg (fun b hb hm=>absurd (hS0 b hm) (by omega)))) (fun k hk=>by rcases (st.res (i:=1) rfl).1.2 k hk with h|h;exact hS0 k h;omega) (st.regGet (i:=1) rfl).1 (hcx.kept (.of_chg st.chg (fun b hb hm=>absurd (hS0 b hm) (by omega))))) ?_)
 rintro _ w ⟨gv3,qv3,cl3,pp⟩
 replace st:=st.regP (i:=1) rfl pp
 dsimp only [setNth] at st
 replace st:St w0 (loS xb gv qv cl) [.blk b3 (.cells (smL s (some ⟨gb,go,none⟩) ob ol ze zb zl).toArray 144 (0,0)),loG (loS xb gv qv cl) w0.heap.size c xb (c2L (lo:=c.t.locals) (sh:=c.p.shared) (lk:=c.p.locks) s.body (vaL c.t.locals c.p.shared x Ls)) gv3 qv3 cl3] w:=st
 have hL2:=(st.regGet (i:=1) rfl).1
 have eq2:=hL2.eq
 have le2:=hL2.le
 obtain⟨oq3,zq3,rfl⟩:=slice_formZ hL2.opn
 refine et (vk3 0 3 4 (sr ?_))
 refine ym ?_
 refine ynk ?_
 refine yfz 8 underlying76 sizeOf74 ?_
 refine vy (y_ldc rfl isAgg74 (cell_blk ((st.regGet (i:=1) rfl).1.cell) rfl)) ?_
 refine ya ?_
 refine et (vk4 0 3 4 5 (sr ?_))
 iterate 3 refine ym ?_
 refine vc_e (e_call [_,_] rfl rfl call112 rfl (lother_any xb _ _) ?_)
 rintro _ w ⟨⟨c1,c2,rfl,g3,g4,hne,hc1,hc2⟩,cw⟩
 have hsA:=st.chg.size
 replace st:=st.pushBB cw g3 g4 hc1 hc2 hne
 have hcA:w0.heap.size≤c1:=by omega
 have hcB:w0.heap.size≤c2:=by omega
 refine vc_e (e_bs1 (l:=[_]) st rfl rfl rfl rfl underlying74 sizeOf124 rfl rfl rfl zeroValue124 ?_)
 intro b27 w hb27 st
 replace st:=(st.pick [4,0,1,2,3] rfl (by decide)).loOpen
 dsimp only at st
 refine ynk ?_
 refine yfz 8 underlying76 sizeOf74 ?_
 refine vc_e (e_st st 0 rfl rfl rfl rfl sizeOf74 rfl rfl (by(left;exact .head _)) ?_)
 intro w st;dsimp only [setNth,wr] at st
 refine et (vk3 0 3 5 (sr ?_))
 replace st:=(((st.pick [4,5,6,0,1,2,3,7] rfl (by decide)).newOpen (k:=putAt (vaL c.t.locals c.p.shared x Ls).2) (f:=true) (xb:=xb) (by assumption) hcA hcB).pick [2,3,0,1,4,5,6] rfl (by decide)).loClose {(c2L (lo:=c.t.locals) (sh:=c.p.shared) (lk:=c.p.locks) s.body (vaL c.t.locals c.p.shared x Ls)) with op:=[(putAt (vaL c.t.locals c.p.shared x Ls).2,true)]} rfl (.inl (.head _)) (by simpa using hnl) le2
 have le3:1≤800000000:=by decide
 refine ym ?_
 refine yfz 5 underlying144 sizeOf48 ?_
 refine yl st 3 isAgg48 ?_
 refine vc_e (e_call [_,_] rfl rfl call20 rfl (hE {(c2L (lo:=c.t.locals) (sh:=c.p.shared) (lk:=c.p.locks) s.body (vaL c.t.locals c.p.shared x Ls)) with op:=[(putAt (vaL c.t.locals c.p.shared x Ls).2,true)]} (by show (c2L (lo:=c.t.locals) (sh:=c.p.shared) (lk:=c.p.locks) s.body (vaL c.t.locals c.p.shared x Ls)).s+_≤_;omega) (by simp only [List.length_singleton];omega) _ _ _ _ _ _ (hrl.kept (.of_chg st.chg (fun b hb hm=>absurd (hS0 b hm) (by omega)))) (fun k hk=>by rcases (st.res (i:=0) rfl).1.2 k hk with h|h;exact hS0 k h;omega) (st.regGet (i:=0) rfl).1 (hcx.kept (.of_chg st.chg (fun b hb hm=>absurd (hS0 b hm) (by omega))))) ?_)
 rintro _ w ⟨gv4,qv4,cl4,pp⟩
 replace st:=st.regP (i:=0) rfl pp
 dsimp only [setNth] at st
 replace st:St w0 (loS xb gv (qv) cl) [loG (loS xb gv qv cl) w0.heap.size c xb (c3L (lo:=c.t.locals) (sh:=c.p.shared) (lk:=c.p.locks) s.body s.els (vaL c.t.locals c.p.shared x Ls)) gv4 qv4 cl4,opR (loS xb gv qv cl) w0.heap.size (.slice oq3 cl3.length zq3) cl3,clR (loS xb gv qv cl) w0.heap.size xb cl3,.blk b3 (.cells (smL s (some ⟨gb,go,none⟩) ob ol ze zb zl).toArray 144 (0,0))] w:=st
 have hL3:=(st.regGet (i:=0) rfl).1
 have eq3:=hL3.eq
 have lt3:=hL3.lt
 have le4:=hL3.le
 obtain⟨oq4,zq4,rfl⟩:=slice_formZ hL3.opn
 replace st:=st.loOpen
 have hl3:cl3.length=(c2L (lo:=c.t.locals) (sh:=c.p.shared) (lk:=c.p.locks) s.body (vaL c.t.locals c.p.shared x Ls)).op.length:=by rw [eq2,List.length_map]
 have hl4:cl4.length=(c3L (lo:=c.t.locals) (sh:=c.p.shared) (lk:=c.p.locks) s.body s.els (vaL c.t.locals c.p.shared x Ls)).op.length:=by rw [eq3,List.length_map]
 have hb2:Few (szSs s.els) {(c2L (lo:=c.t.locals) (sh:=c.p.shared) (lk:=c.p.locks) s.body (vaL c.t.locals c.p.shared x Ls)) with op:=[(putAt (vaL c.t.locals c.p.shared x Ls).2,true)]} (c3L (lo:=c.t.locals) (sh:=c.p.shared) (lk:=c.p.locks) s.body s.els (vaL c.t.locals c.p.shared x Ls)):=bl_few s.els _
 have hb2o:max (c3L (lo:=c.t.locals) (sh:=c.p.shared) (lk:=c.p.locks) s.body s.els (vaL c.t.locals c.p.shared x Ls)).op.length 1≤max 1 1+szSs s.els:=hb2.2
 have hnl3:(c2L (lo:=c.t.locals) (sh:=c.p.shared) (lk:=c.p.locks) s.body (vaL c.t.locals c.p.shared x Ls)).N.length≤(c3L (lo:=c.t.locals) (sh:=c.p.shared) (lk:=c.p.locks) s.body s.els (vaL c.t.locals c.p.shared x Ls)).N.length:=bl_nlen (lo:=c.t.locals) (sh:=c.p.shared) (lk:=c.p.locks) s.els {(c2L (lo:=c.t.locals) (sh:=c.p.shared) (lk:=c.p.locks) s.body (vaL c.t.locals c.p.shared x Ls)) with op:=[(putAt (vaL c.t.locals c.p.shared x Ls).2,true)]}
 refine et (vk2 0 5 (vc_region ?_))
 iterate 3 refine ym ?_
 refine ynk ?_
 refine yfz 8 underlying76 sizeOf74 ?_
 refine yl st 0 isAgg74 ?_
 refine vc_e (e_apprZ (bytes:=8) (l:=cl4.map clV) (len':=cl3.length+cl4.length) (ys:=cl3.map clV++cl4.map clV) st 4 rfl rfl rfl rfl rfl (ownsRow_rd (st.res (i:=2) rfl).1.1 (by decide)) underlying74 Tryz.info124 rfl rfl rfl rfl rfl (by simp) clV_one (by unfold maxLen;omega) (by omega) rfl rfl ?_)
 intro oa40 cap40 w st;dsimp only [setNth] at st
 refine ynk ?_
 refine yfz 8 underlying76 sizeOf74 ?_
 refine vc_e (e_st st 0 rfl rfl rfl rfl sizeOf74 rfl rfl (by(left;exact .head _)) ?_)
 intro w st;dsimp only [setNth,wr] at st
 refine vc_end ?_
 refine vq_ret0 (.inr rfl) results50 ?_
 refine⟨_,rfl,?_⟩
 rw [sm3 hk he]
 refine⟨_,_,_,((((st.pick [5,3,0,1,4] rfl (by decide)).clJoin.pick [1,2,3,0] rfl (by decide)).opTo (i:=2) (q:=cl3++cl4) rfl (by simp) (by simp)).loClose {(c3L (lo:=c.t.locals) (sh:=c.p.shared) (lk:=c.p.locks) s.body s.els (vaL c.t.locals c.p.shared x Ls)) with op:=(c2L (lo:=c.t.locals) (sh:=c.p.shared) (lk:=c.p.locks) s.body (vaL c.t.locals c.p.shared x Ls)).op++(c3L (lo:=c.t.locals) (sh:=c.p.shared) (lk:=c.p.locks) s.body s.els (vaL c.t.locals c.p.shared x Ls)).op} ?_ (.inl (.head _)) ?_ le4).regDone (i:=0) rfl⟩
 ·rw [List.map_append,eq2,eq3]
 intro f hf
 rw [List.map_append,← eq2,← eq3] at hf
 rcases List.mem_append.1 hf with hf|hf
 ·exact Nat.lt_of_lt_of_le (hL2.lt f hf) hnl3
 ·exact lt3 f hf
set_option maxHeartbeats 1000000 in
theorem lloop_any (xb:Nat) (c:Cx) (s:Sm) (x:Ex) (hk:s.k=4) (he:s.e=[x]) (hx0:rightE x 0=true) (hB:BlC n0 xb c s.body):StF n0 xb c 51 s:=by
 intro Ls hsz hop gv qv cl l w hV hS0 hLo hcx
 obtain⟨oe,ob,ol,ze,zb,zl,rfl,hre,hrb,hrl⟩:=SmV.inv hV
 refine ret_of [_,_] func51 rfl ntmps51 rfl ?_
 have st:=St.init w []
 obtain⟨w0,rfl⟩:∃ w0,w0=w:=⟨_,rfl⟩
 have hn0:n0≤w0.heap.size:=Nat.le_trans (hS0 xb (.head _)) (Nat.le_of_lt (hLo.reg.2.1 xb (.head _)))
 replace st:=St.regInit hLo.reg
 have hx:s.e[0]?=some x:=by rw [he];rfl
 obtain⟨gb,go,rfl,hgS,hgl,hg⟩:=ExRow.at hre (by rw [he];simp)
 have hgS2:gb<n0:=hgS
 obtain⟨o0,c0,hV0,hr0,hc0⟩:=hg 0 x hx
 have hl1:0<s.e.length:=by rw [he];simp
 have hzx:=szS_e he
 have hf1:=va_few' (lo:=c.t.locals) (sh:=c.p.shared) x Ls
 have hf1s:=hf1.1
 have hf1o:=hf1.2
 have hp1:=put_few (mkG 8 0 0 0 (vaL c.t.locals c.p.shared x Ls).1 (.num 0)) (vaL c.t.locals c.p.shared x Ls).2
 have hp1s:(brL (vaL c.t.locals c.p.shared x Ls).1 (vaL c.t.locals c.p.shared x Ls).2).s≤(vaL c.t.locals c.p.shared x Ls).2.s+0:=hp1.1
 have hp1o:max (brL (vaL c.t.locals c.p.shared x Ls).1 (vaL c.t.locals c.p.shared x Ls).2).op.length 1≤max (vaL c.t.locals c.p.shared x Ls).2.op.length 1+0:=hp1.2
 have hb1:Few (szSs s.body) (brL (vaL c.t.locals c.p.shared x Ls).1 (vaL c.t.locals c.p.shared x Ls).2) (c2L (lo:=c.t.locals) (sh:=c.p.shared) (lk:=c.p.locks) s.body (vaL c.t.locals c.p.shared x Ls)):=bl_few s.body _
 have hb1s:=hb1.1
 have hb1o:=hb1.2
 have hnl:putAt (vaL c.t.locals c.p.shared x Ls).2<(c2L (lo:=c.t.locals) (sh:=c.p.shared) (lk:=c.p.locks) s.body (vaL c.t.locals c.p.shared x Ls)).N.length:=Nat.lt_of_lt_of_le (putAt_lt (mkG 8 0 0 0 (vaL c.t.locals c.p.shared x Ls).1 (.num 0)) (vaL c.t.locals c.p.shared x Ls).2) (bl_nlen s.body _)
 obtain⟨on,zn,rfl⟩:=slice_formZ hLo.row
 refine sr ?_
 refine vc_e (e_bx (l:=[_,_,_,_,_,_,_]) st rfl rfl rfl rfl ?_)
 intro b3 w hb3 st
 refine et (vk2 0 3 (sr ?_))
 refine ym ?_
 refine ynk ?_
 refine yfz 4 underlying76 sizeOf43 ?_
 refine vy (y_fa (k:=3) rfl underlying43 rfl rfl sizeOf41 rfl) ?_
 refine vy (y_ldc rfl isAgg41 (cell_blk ((st.regGet (i:=1) rfl).1.cell) rfl)) ?_
 refine vy (y_lensl rfl underlying41) ?_
 refine ya ?_
 refine et (vk3 0 3 4 (sr ?_))
 iterate 2 refine ym ?_
 refine yfz 3 underlying144 sizeOf142 ?_
 refine yl st 0 isAgg142 ?_
 refine vy (y_ia (k:=0) rfl rfl underlying142 sizeOf177 rfl (by omega)) ?_
 refine vy (y_ldca (exL x o0 c0) rfl isAgg177 sizeOf177 rfl (fun i v hi=>st.chg.cell (hc0 i v hi) (fun hm=>absurd (hS0 gb hm) (by omega)))) ?_
 refine vc_e (e_call [_,_] rfl rfl call108 rfl (lvalue_any xb c _ x rfl _ hx0 Ls (by omega) (by omega) (.slice on Ls.N.length zn) qv cl _ _ (hV0.kept (.of_chg st.chg (fun b hb hm=>absurd (hS0 b hm) (by omega)))) (fun k hk=>by rcases (st.res (i:=1) rfl).1.2 k hk with h|h;exact hS0 k h;omega) (st.regGet (i:=1) rfl).1 (hcx.kept (.of_chg st.chg (fun b hb hm=>absurd (hS0 b hm) (by omega))))) ?_)
 rintro _ w ⟨rfl,gv1,qv1,cl1,pp⟩
 replace st:=st.regP (i:=1) rfl pp
 dsimp only [setNth] at st
 refine vy (ybd (.agg #[_,_,_,_,_,_,_,_,_,_,_,_,_]) [(0,_),(4,_)]) ?_
 refine vc_e (e_call [_,_] rfl rfl call21 rfl (lput_any c xb (vaL c.t.locals c.p.shared x Ls).2 gv1 qv1 cl1 (mkG 8 0 0 0 (vaL c.t.locals c.p.shared x Ls).1 (.num 0)) _ (st.regGet (i:=1) rfl).1 (by omega)) ?_)
 rintro _ w ⟨rfl,gv2,qv2,cl2,pp⟩
 replace st:=st.regP (i:=1) rfl pp
 dsimp only [setNth] at st
 refine ya ?_
 refine et (vk4 0 3 4 5 (sr ?_))
 refine ym ?_
 refine yfz 4 underlying144 sizeOf48 ?_
 refine yl st 0 isAgg48 ?_
 refine vc_e (e_call [_,_] rfl rfl call20 rfl (hB (brL (vaL c.t.locals c.p.shared x Ls).1 (vaL c.t.locals c.p.shared x Ls).2) (by omega) (by omega) gv2 qv2 cl2 _ _ _ (hrb.kept (.of_chg st.chg (fun b hb hm=>absurd (hS0 b hm) (by omega)))) (fun k hk=>by rcases (st.res (i:=1) rfl).1.2 k hk with h|h;exact hS0 k h;omega) (st.regGet (i:=1) rfl).1 (hcx.kept (.of_chg st.chg (fun b hb hm=>absurd (hS0 b hm) (by omega))))) ?_)
 rintro _ w ⟨gv3,qv3,cl3,pp⟩
 replace st:=st.regP (i:=1) rfl pp
 dsimp only [setNth] at st
 replace st:St w0 (loS xb (.slice on Ls.N.length zn) qv cl) [.blk b3 (.cells (smL s (some ⟨gb,go,none⟩) ob ol ze zb zl).toArray 144 (0,0)),loG (loS xb (.slice on Ls.N.length zn) qv cl) w0.heap.size c xb (c2L (lo:=c.t.locals) (sh:=c.p.shared) (lk:=c.p.locks) s.body (vaL c.t.locals c.p.shared x Ls)) gv3 qv3 cl3] w:=st
 have hL2:=(st.regGet (i:=1) rfl).1
 have le2:=hL2.le
 refine et (vk3 0 4 5 (vc_seq (sr ?_)))
 refine ym ?_
 refine ynk ?_
 refine yfz 9 underlying76 sizeOf4 ?_
 refine vy (y_ldc rfl isAgg4 (cell_blk ((st.regGet (i:=1) rfl).1.cell) rfl)) ?_
 refine et (vk4 0 4 5 28 ?_)
 refine vif ?_ ?_
 ·intro hc28
  try simp only [dn] at hc28
  refine vc_ret (vq_then_ret ?_)
  refine vq_ret0 (.inl rfl) results51 ?_
  refine⟨_,rfl,?_⟩
  rw [sm4 hk he,if_pos (by assumption)]
  exact⟨gv3,qv3,cl3,st.regDone (i:=1) rfl⟩
 intro hc28
 try simp only [dn] at hc28
 refine kt (vk3 0 4 5 (sr ?_))
 iterate 2 refine ym ?_
 refine vc_e (e_call [_,_] rfl rfl call55 rfl (lead_any c xb Ls.N.length (c2L (lo:=c.t.locals) (sh:=c.p.shared) (lk:=c.p.locks) s.body (vaL c.t.locals c.p.shared x Ls)) gv3 qv3 cl3 _ (st.regGet (i:=1) rfl).1 (by omega)) ?_)
 rintro _ w pp
 replace st:=st.regP (i:=1) rfl pp
 dsimp only [setNth] at st
 refine et (vk2 0 5 (vc_region ?_))
 iterate 3 refine ym ?_
 refine vc_e (e_call [_,_] rfl rfl call112 rfl (lother_any xb _ _) ?_)
 rintro _ w ⟨⟨c1,c2,rfl,g3,g4,hne,hc1,hc2⟩,cw⟩
 have hsA:=st.chg.size
 replace st:=st.pushBB cw g3 g4 hc1 hc2 hne
 have hcA:w0.heap.size≤c1:=by omega
 have hcB:w0.heap.size≤c2:=by omega
 refine vc_e (e_bs1 (l:=[_]) st rfl rfl rfl rfl underlying74 sizeOf124 rfl rfl rfl zeroValue124 ?_)
 intro b36 w hb36 st
 replace st:=(st.pick [4,0,1,2,3] rfl (by decide)).loOpen
 dsimp only at st
 refine ynk ?_
 refine yfz 8 underlying76 sizeOf74 ?_
 refine vc_e (e_st st 0 rfl rfl rfl rfl sizeOf74 rfl rfl (by(left;exact .head _)) ?_)
 intro w st;dsimp only [setNth,wr] at st
 refine vc_end ?_
 refine vq_ret0 (.inr rfl) results51 ?_
 refine⟨_,rfl,?_⟩
 rw [sm4 hk he,if_neg (by simp_all)]
 refine⟨_,_,_,((((st.pick [4,5,6,0,1] rfl (by decide)).newOpen (k:=putAt (vaL c.t.locals c.p.shared x Ls).2) (f:=true) (xb:=xb) (by assumption) hcA hcB).pick [2,3,0,1] rfl (by decide)).loClose {(c2L (lo:=c.t.locals) (sh:=c.p.shared) (lk:=c.p.locks) s.body (vaL c.t.locals c.p.shared x Ls)) with N:=leadL (c2L (lo:=c.t.locals) (sh:=c.p.shared) (lk:=c.p.locks) s.body (vaL c.t.locals c.p.shared x Ls)).op Ls.N.length (c2L (lo:=c.t.locals) (sh:=c.p.shared) (lk:=c.p.locks) s.body (vaL c.t.locals c.p.shared x Ls)).N,op:=[(putAt (vaL c.t.locals c.p.shared x Ls).2,true)]} rfl (.inl (.head _)) (by simpa [leadL_len] using hnl) (by rw [leadL_len];exact le2)).regDone (i:=0) rfl⟩
def lfnOf (m:Nat):Nat:=[54,48,49,50,51,52,53,54].getD m 54
theorem lstmt_of (xb:Nat) (c:Cx) (s:Sm) (d:Nat) (hr:rightS s d=true) (hB:BlC n0 xb c s.body) (hE:BlC n0 xb c s.els):∃ m:Nat,s.k=(m:Int)∧1≤m∧m≤7∧StF n0 xb c (lfnOf m) s:=by
 obtain⟨r1,r4⟩:(1≤s.k∧s.k≤7)∧rightX (hasE s.k) s.e=true:=by
  cases s with
  | mk k nm other e body els a=>
   simp only [rightS,Bool.and_eq_true,decide_eq_true_eq] at hr
   exact⟨hr.1.1.1.1.1.1.1.1,hr.1.1.1.1.1.2⟩
 rcases (by omega:s.k=1∨s.k=2∨s.k=3∨s.k=4∨s.k=5∨s.k=6∨s.k=7) with h|h|h|h|h|h|h
 ·rw [h] at r4
  obtain⟨-,x,he,hx⟩|⟨h0,-⟩:=rightX_iff.1 r4
  ·exact⟨1,h,by decide,by decide,lassign_any xb c s x h he hx⟩
  ·cases h0
 ·rw [h] at r4
  obtain⟨-,x,he,hx⟩|⟨h0,-⟩:=rightX_iff.1 r4
  ·exact⟨2,h,by decide,by decide,lswap_any xb c s x h he hx⟩
  ·cases h0
 ·rw [h] at r4
  obtain⟨-,x,he,hx⟩|⟨h0,-⟩:=rightX_iff.1 r4
  ·exact⟨3,h,by decide,by decide,lcond_any xb c s x h he hx hB hE⟩
  ·cases h0
 ·rw [h] at r4
  obtain⟨-,x,he,hx⟩|⟨h0,-⟩:=rightX_iff.1 r4
  ·exact⟨4,h,by decide,by decide,lloop_any xb c s x h he hx hB⟩
  ·cases h0
 ·rw [h] at r4
  obtain⟨h0,-⟩|⟨-,he⟩:=rightX_iff.1 r4
  ·cases h0
  ·exact⟨5,h,by decide,by decide,llock_any xb c s h he hB⟩
 ·rw [h] at r4
  obtain⟨-,x,he,hx⟩|⟨h0,-⟩:=rightX_iff.1 r4
  ·exact⟨6,h,by decide,by decide,lprint_any xb c s x h he hx⟩
  ·cases h0
 ·rw [h] at r4
  obtain⟨h0,-⟩|⟨-,he⟩:=rightX_iff.1 r4
  ·cases h0
  ·exact⟨7,h,by decide,by decide,lskip_any xb c s h he⟩
abbrev lfnL:List Value:=[.nilFunc,.func (.func 48) #[] #[],.func (.func 49) #[] #[],.func (.func 50) #[] #[],.func (.func 51) #[] #[],.func (.func 52) #[] #[],.func (.func 53) #[] #[],.func (.func 54) #[] #[]]
theorem lfn_at (m:Nat) (h1:1≤m) (h7:m≤7):nth lfnL (m*1)=some (.func (.func (lfnOf m)) #[] #[]):=by
 rcases (by omega:m=1∨m=2∨m=3∨m=4∨m=5∨m=6∨m=7) with rfl|rfl|rfl|rfl|rfl|rfl|rfl <;> rfl
theorem lfn_at0 (m:Nat) (h1:1≤m) (h7:m≤7):nth lfnL (0+m*1)=some (.func (.func (lfnOf m)) #[] #[]):=by rw [Nat.zero_add];exact lfn_at m h1 h7
theorem lfn_call (m:Nat) (h1:1≤m) (h7:m≤7):∀ (az:Array Value) w,(callFunc (lfnOf m) az).run Tryz.prog w=.ok (.enter (lfnOf m) az) w:=by
 rcases (by omega:m=1∨m=2∨m=3∨m=4∨m=5∨m=6∨m=7) with rfl|rfl|rfl|rfl|rfl|rfl|rfl
 ·exact call48
 ·exact call49
 ·exact call50
 ·exact call51
 ·exact call52
 ·exact call53
 ·exact call54
set_option maxHeartbeats 1000000 in
theorem lblock_of (xb:Nat) (c:Cx) (l:List Sm) (hlm:l.length≤1099511627776) (hS:∀ s∈l,∃ m:Nat,s.k=(m:Int)∧1≤m∧m≤7∧StF n0 xb c (lfnOf m) s):BlC n0 xb c l:=by
 intro Ls hsz hop gv qv cl oa z w hR hS0 hLo hcx
 refine ret_of [_,_] func20 rfl ntmps20 rfl ?_
 have st:=St.init w []
 obtain⟨w0,rfl⟩:∃ w0,w0=w:=⟨_,rfl⟩
 have hn0:n0≤w0.heap.size:=Nat.le_trans (hS0 xb (.head _)) (Nat.le_of_lt (hLo.reg.2.1 xb (.head _)))
 replace st:=St.regInit hLo.reg
 refine sr ?_
 refine vy (ybd (.agg #[_,_,_,_,_,_,_,_]) [(1,_),(2,_),(3,_),(4,_),(5,_),(6,_),(7,_)]) ?_
 refine vc_e (e_al (l:=[_,_,_,_,_,_,_,_]) st rfl rfl zeroValue140 rfl ?_)
 intro b4 w hb4 st
 refine vc_e (ests st 0 [_,_,_,_,_,_,_,_] sizeOf140 ?_)
 intro w st;dsimp only [setNth,wr] at st
 refine et (vk3 0 1 4 (sr ?_))
 refine ym ?_
 refine vy (y_lensl rfl underlying48) ?_
 refine ym ?_
 refine et (vk5 0 4 8 9 10 (vc_block ?_))
 refine vc_loop (w0:=w0) (M:=(loS xb gv qv cl)) (fun (y:Nat×LS×Value×Value×List Clo)=>[(0,.pointer (some ⟨xb,0,none⟩)),(4,.pointer (some ⟨b4,0,none⟩)),(8,.slice oa l.length z),(9,.int .i64 (l.length:Int)),(10,.int .i64 (y.1:Int))]) (fun y=>[.blk b4 (.cells lfnL.toArray 140 (0,0)),loG (loS xb gv qv cl) w0.heap.size c xb y.2.1 y.2.2.1 y.2.2.2.1 y.2.2.2.2]) (fun y w'=>y.1≤l.length∧blL c.t.locals c.p.shared c.p.locks l Ls=blL c.t.locals c.p.shared c.p.locks (l.drop y.1) y.2.1∧y.2.1.s+szSs (l.drop y.1)≤800000000∧max y.2.1.op.length 1+szSs (l.drop y.1)≤800000000) (fun y=>l.length - y.1) (0,Ls,gv,qv,cl) ⟨rfl,rfl,rfl,rfl,rfl,trivial⟩ st ⟨by simp,by simp,by simpa using hsz,by simpa using hop⟩ ?_
 clear st
 rintro ⟨j,Lj,gvj,qvj,clj⟩ w ⟨hj,hbl,hbs,hbo⟩ st
 dsimp only at hj hbl hbs hbo st ⊢
 refine sr ?_
 refine vy (y_lss rfl rfl) ?_
 refine et (vk6 0 4 8 9 10 11 (vc_seq ?_))
 refine vif ?_ ?_
 ·intro hc11
  try simp only [dn] at hc11
  have hj2:j<l.length:=by omega
  obtain⟨s,hx⟩:∃ s,l[j]?=some s:=⟨_,List.getElem?_eq_getElem hj2⟩
  obtain⟨gb,go,rfl,hgS,hgl,hg⟩:=SmRow.at hR (by omega)
  have hgS2:gb<n0:=hgS
  obtain⟨oe,ob,ol,ze,zb,zl,hV0,-,-,-,hsc⟩:=hg j s hx
  obtain⟨m,hm,hm1,hm7,hF⟩:=hS s (List.mem_of_getElem? hx)
  have hdr:l.drop j=s::l.drop (j+1):=by rw [List.drop_eq_getElem_cons hj2,(List.getElem?_eq_some_iff.1 hx).2]
  have hzs:szSs (l.drop j)=szS s+szSs (l.drop (j+1)):=by rw [hdr,szSs]
  refine kt (vk5 0 4 8 9 10 (vc_seq (vc_block (sr ?_))))
  refine vy (y_ia (k:=j) rfl rfl underlying48 sizeOf144 rfl (by omega)) ?_
  refine vy (y_ldca (smL s oe ob ol ze zb zl) rfl isAgg144 sizeOf144 rfl (fun i v hi=>st.chg.cell (hsc i v hi) (fun hm=>absurd (hS0 gb hm) (by omega)))) ?_
  refine vc_e (e_al (l:=[_,_,_,_,_,_,_]) st rfl rfl zeroValue144 rfl ?_)
  intro b6 w hb6 st
  refine vc_e (ests st 0 [_,_,_,_,_,_,_] sizeOf144 ?_)
  intro w st;dsimp only [setNth,wr] at st
  refine et (vk6 0 4 6 8 9 10 (vc_seq (sr ?_)))
  refine ym ?_
  refine ynk ?_
  refine yfz 9 underlying76 sizeOf4 ?_
  refine vy (y_ldc rfl isAgg4 (cell_blk ((st.regGet (i:=2) rfl).1.cell) rfl)) ?_
  refine et (vk7 0 4 6 8 9 10 17 ?_)
  refine vif ?_ ?_
  ·intro hc17
   try simp only [dn] at hc17
   refine vc_ret (vq_then_ret (vq_block_ret (vq_then_ret (vq_then_ret (vq_block_ret ?_)))))
   refine vq_ret0 (.inl rfl) results20 ?_
   refine⟨_,rfl,?_⟩
   rw [hbl,hdr,blL,if_pos (by assumption)]
   exact⟨gvj,qvj,clj,st.regDone (i:=2) rfl⟩
  intro hc17
  try simp only [dn] at hc17
  refine kt (vk6 0 4 6 8 9 10 ?_)
  refine vdr Tryz.mixed [Yt 0,Yt 1,Yt 2,Yt 3,Yt 4,Yt 5,Nt 6] [.blk b6 (.cells (smL s oe ob ol ze zb zl).toArray 144 (0,0)),.blk b4 (.cells lfnL.toArray 140 (0,0))] st ?_
  clear st;intro w st hS
  refine pf0 hS underlying144 sizeOf141 ?_
  refine pld hS 0 isAgg141 ?_
  refine vp_take rfl rfl rfl hS (fun w st=>y_iaa (k:=m) rfl rfl underlying140 sizeOf138 hm (by omega)) ?_
  refine vp_take rfl rfl rfl hS (fun w st=>y_ld st 1 rfl isAgg138 rfl (by exact lfn_at0 m hm1 hm7)) ?_
  refine pm hS ?_
  refine vp_take rfl rfl rfl hS (fun w st=>y_lda (vs:=[_,_,_,_,_,_,_]) st 0 rfl isAgg144 sizeOf144 rfl rfl) ?_
  refine vp_do rfl (e_callv [_,_] rfl rfl rfl (lfn_call m hm1 hm7) rfl (hF Lj (by omega) (by omega) gvj qvj clj _ _ (hV0.kept (.of_chg st.chg (fun b hb hm=>absurd (hS0 b hm) (by omega)))) (fun k hk=>by rcases (st.res (i:=2) rfl).1.2 k hk with h|h;exact hS0 k h;omega) (st.regGet (i:=2) rfl).1 (hcx.kept (.of_chg st.chg (fun b hb hm=>absurd (hS0 b hm) (by omega))))) ?_)
  rintro _ w ⟨gv1,qv1,cl1,pp⟩
  replace st:=st.regP (i:=2) rfl pp
  dsimp only [setNth] at st
  refine vp_next st.dr ?_;intro hS
  refine vp_end (vq_block (vq_then (vk5 0 4 8 9 10 (vc_region ?_))))
  refine vy (y_add rfl rfl (by omega:_=((j+1:Nat):Int)) (by omega) (by omega)) ?_
  refine ym ?_
  refine vc_end ?_
  refine vq_again (j+1,_,gv1,qv1,cl1)  ⟨rfl,rfl,rfl,rfl,rfl,trivial⟩ (st.drop (.cons _ (List.Sublist.refl _))) ?_ ?_
  ·refine⟨by dsimp only;omega,?_,?_,?_⟩
   ·dsimp only;rw [hbl,hdr,blL,if_neg (by simp_all)]
   ·have h1:=(sm_few (lo:=c.t.locals) (sh:=c.p.shared) (lk:=c.p.locks) s Lj).1;dsimp only;omega
   have h1:=(sm_few (lo:=c.t.locals) (sh:=c.p.shared) (lk:=c.p.locks) s Lj).2;dsimp only;omega
  dsimp only;omega
 intro hc11
 try simp only [dn] at hc11
 have hj2:j=l.length:=by omega
 subst hj2
 rw [List.drop_length,blL] at hbl
 refine vc_exit (vq_then_exit (vq_then_exit (vq_block_exit ?_)))
 refine vq_ret0 (.inr rfl) results20 ?_
 refine⟨_,rfl,?_⟩
 rw [hbl]
 exact⟨gvj,qvj,clj,st.regDone (i:=1) rfl⟩
mutual
theorem lstmt_any (xb:Nat) (c:Cx):∀ (s:Sm) (d:Nat),rightS s d=true→OkS s→∃ m:Nat,s.k=(m:Int)∧1≤m∧m≤7∧StF n0 xb c (lfnOf m) s
 | .mk k nm other e body els a=>fun d hr hok=>lstmt_of xb c _ d hr (lblock_of xb c body hok.body.1 (lstmts_any xb c body (d+1) (rightS_parts hr).2.2.1 hok.body)) (lblock_of xb c els hok.els.1 (lstmts_any xb c els (d+1) (rightS_parts hr).2.2.2.1 hok.els))
termination_by structural s=>s
theorem lstmts_any (xb:Nat) (c:Cx):∀ (l:List Sm) (d:Nat),rightSs l d=true→OkSs l→∀ s∈l,∃ m:Nat,s.k=(m:Int)∧1≤m∧m≤7∧StF n0 xb c (lfnOf m) s
 | []=>fun d hr hok s hs=>by simp at hs
 | x::r=>fun d hr hok s hs=>by
  rw [rightSs,Bool.and_eq_true] at hr
  by_cases h:s=x
  ·rw [h];exact lstmt_any xb c x d hr.1 (hok.2 0 x rfl)
  ·exact lstmts_any xb c r d hr.2 ⟨Nat.le_trans (by simp) hok.1,fun j y hy=>hok.2 (j+1) y (by simpa using hy)⟩ s ((List.mem_cons.1 hs).resolve_left h)
termination_by structural l=>l
end
theorem lblock_any (xb:Nat) (c:Cx) (l:List Sm) (d:Nat) (hr:rightSs l d=true) (hok:OkSs l):BlC n0 xb c l:=lblock_of xb c l hok.1 (lstmts_any xb c l d hr hok)
end
end Go.Proofs.YtkhpdpenlnhbiaaGreatDoor
