/- A part of the proof: contracts of functions and plain laws; each theorem says its own conditions. -/
import Derived.Test.YtnmhlpnapgojjaaGreatDoorTopReadK2
import Derived.Test.YtnmhlpnapgojjaaGreatDoorTopReadK3
import Derived.Test.YtnmhlpnapgojjaaGreatDoorTopReadK1
set_option linter.unusedVariables false
set_option linter.unusedSimpArgs false
namespace Go.Proofs.YtnmhlpnapgojjaaGreatDoor
open Go.RowKit Sx LexS _root_.Go.Proofs.Tryz
/-- a text 'G' behind 'l', up to where it is too long -/
def TxR (l G r : List UInt8) : Prop := (l.length + G.length ≤ 65536 → r = l ++ G) ∧ (65536 < l.length + G.length → 65536 < r.length) ∧ r.length ≤ l.length + G.length ∧ l.length ≤ r.length
theorem TxR.app (l G : List UInt8) : TxR l G (l ++ G) := ⟨fun _ => rfl, fun h => by simpa using h, by simp, by simp⟩
theorem TxR.skip {l : List UInt8} (h : 65536 < l.length) (G : List UInt8) : TxR l G l := ⟨fun h1 => by omega, fun _ => h, by omega, by omega⟩
theorem TxR.trans {l G r G' r' : List UInt8} (h : TxR l G r) (h' : TxR r G' r') : TxR l (G ++ G') r' := by
 obtain ⟨a1, a2, a3, a4⟩ := h
 obtain ⟨b1, b2, b3, b4⟩ := h'
 refine ⟨fun hl => ?_, fun hl => ?_, ?_, by omega⟩
 ·simp only [List.length_append] at hl
  have := a1 (by omega)
  subst this
  rw [b1 (by simp; omega), List.append_assoc]
 ·simp only [List.length_append] at hl
  rcases Nat.lt_or_ge 65536 (l.length + G.length) with h | h
  ·have := a2 h; omega
  ·have := a1 h
   subst this
   exact b2 (by simp; omega)
 simp only [List.length_append]; omega
section
variable {n0 : Nat}

set_option maxHeartbeats 1000000 in
theorem tkid_any (x : Ex) (hrec : ∀ (v : Value) (l : List UInt8) (w : World) (ll : List Value), ExV w (· < n0) x ll → w.ownsRow 0 5 1 v l.length (bytesL l) → (∀ k, v.ownBlock = some k → n0 ≤ k) → n0 ≤ w.heap.size → 0 < n0 → Sig w → l.length + (txtE x).length ≤ 1099511627776 →
      Ret Tryz.prog 47 [v, .agg ll.toArray] w fun r w' => ∃ l', RowP 5 v r l'.length (bytesL l') w w' ∧ TxR l (txtE x) l')
  (b : Bool) (o : Option Addr) (c : Nat) (bx : Nat) (v : Value) (l : List UInt8) (w : World) (hV : ExV w (· < n0) x (exL x o c)) (hB : Bx 5 n0 78 bx v l w) (hn0 : n0 ≤ w.heap.size) (h0 : 0 < n0) (hsg : Sig w) (hl : l.length + (par b (txtE x)).length ≤ 1099511627776) :
  Ret Tryz.prog 106 [.agg (exL x o c).toArray, .bool b, .pointer (some ⟨bx, 0, none⟩)] w fun r w' => r = .tuple #[] ∧ ∃ v' l', BxP 5 n0 78 bx v v' l' w w' ∧ TxR l (par b (txtE x)) l' := by
 obtain ⟨oa, cap, rfl⟩ := slice_form hB.2.1
 have hB2 := hB.2.2
 refine ret_of [_, _, _] func106 rfl ntmps106 rfl ?_
 have st := St.init w []
 clear st
 obtain ⟨w0, rfl⟩ : ∃ w0, w0 = w := ⟨_, rfl⟩
 have st := St.bxInit hB
 have hMn : ∀ k ∈ bx :: (Value.slice oa l.length cap).ownBlock.toList, n0 ≤ k := fun k hk => by
  rcases Nat.lt_or_ge k n0 with h | h
  ·exact absurd hk (hB.notin h)
  ·exact h
 have hsame : ∀ {w1 : World}, Chg (bx :: (Value.slice oa l.length cap).ownBlock.toList) w0 w1 → Same (· < n0) w0 w1 := fun c => ⟨c.size, fun k hk hs => c.block k hs (hB.notin hk)⟩
 refine sr ?_
 refine vc_e (e_bx (l := [_, _, _, _, _, _]) st rfl rfl rfl rfl ?_)
 intro b3 w hb3 st
 refine et (vk3 1 2 3 (vc_seq (sr ?_)))
 refine ym ?_
 refine et (vk4 1 2 3 5 ?_)
 refine vif ?_ ?_
 intro hc5
 try simp only [dn] at hc5
 have hl2 : l.length + ((txtE x).length + 2) ≤ 1099511627776 := by
  rw [hc5] at hl
  simp only [par, if_true, List.length_append, List.length_cons, List.length_nil] at hl
  omega
 refine vc_region ?_
 refine yl st 1 isAgg78 ?_
 refine vc_e (e_bs1 (l := [_]) st rfl rfl rfl rfl underlying78 sizeOf5 rfl rfl rfl zeroValue5 ?_)
 intro b7 w hb7 st
 refine vc_e (e_appF (bytes := 1) (l := [.int .u8 40]) (len' := (l ++ [40]).length) (ys := bytesL (l ++ [40])) st 3 0 rfl rfl rfl rfl rfl rfl underlying78 Tryz.info5 rfl rfl rfl rfl rfl rfl rfl (by unfold maxLen; (try simp only [List.length_append, List.length_cons, List.length_nil]); omega) (by (try simp only [List.length_append, List.length_cons, List.length_nil]); omega) (by simp only [List.length_append, List.length_cons, List.length_nil, Nat.zero_add]) (by simp [bytesL]) ?_)
 intro oaQ capQ w st; dsimp only [setNth] at st
 refine vc_e (est st 2 sizeOf78 ?_)
 intro w st; dsimp only [setNth, wr] at st
 refine vc_end ?_
 rotate_left
 intro hc5
 try simp only [dn] at hc5
 have hl2 : l.length + (txtE x).length ≤ 1099511627776 := by
  rw [hc5] at hl
  simpa [par] using hl
 refine vc_code_skip ?_
 all_goals
  refine vq_then (vk3 1 2 3 (sr ?_))
  try replace st := st.pick [1, 2, 3] rfl (by decide)
  refine yl st 1 isAgg78 ?_
  refine yla st 0 [_, _, _, _, _, _] isAgg42 sizeOf42 ?_
  refine vc_e (e_call [_, _] rfl rfl call47 rfl (hrec _ _ _ _ (hV.kept (hsame st.chg)) (st.frnGet (i := 2) rfl) (st.frnN (i := 2) rfl hMn hn0) (Nat.le_trans hn0 st.chg.size) h0 (hsg.kept' st.chg (hB.notin h0)) (by (try simp only [List.length_append, List.length_cons, List.length_nil]); omega)) ?_)
  rintro r w ⟨l2, hp, hT⟩
  have hT2 := hT.2.2.1
  (try simp only [List.length_append, List.length_cons, List.length_nil] at hT2)
  obtain ⟨o2, c2, hv2⟩ := slice_form hp.1
  subst hv2
  replace st := st.frnP (i := 2) rfl hp
  dsimp only [setNth] at st
  refine vc_e (est st 1 sizeOf78 ?_)
  intro w st; dsimp only [setNth, wr] at st
  refine et (vk2 1 2 (sr ?_))
  refine ym ?_
  refine et (vk2 2 12 ?_)
  refine vif ?_ ?_
  intro hc12
  try simp only [dn] at hc12
  refine vc_region ?_
  refine yl st 1 isAgg78 ?_
  refine vc_e (e_bs1 (l := [_]) st rfl rfl rfl rfl underlying78 sizeOf5 rfl rfl rfl zeroValue5 ?_)
  intro b14 w hb14 st
  refine vc_e (e_appF (bytes := 1) (l := [.int .u8 41]) (len' := (l2 ++ [41]).length) (ys := bytesL (l2 ++ [41])) st 3 0 rfl rfl rfl rfl rfl rfl underlying78 Tryz.info5 rfl rfl rfl rfl rfl rfl rfl (by unfold maxLen; (try simp only [List.length_append, List.length_cons, List.length_nil]); omega) (by (try simp only [List.length_append, List.length_cons, List.length_nil]); omega) (by simp only [List.length_append, List.length_cons, List.length_nil, Nat.zero_add]) (by simp [bytesL]) ?_)
  intro oaQ capQ w st; dsimp only [setNth] at st
  refine vc_e (est st 2 sizeOf78 ?_)
  intro w st; dsimp only [setNth, wr] at st
  refine vc_end ?_
  rotate_left
  intro hc12
  try simp only [dn] at hc12
  refine vc_code_skip ?_
  all_goals
   refine vq_ret0 (.inr rfl) results106 ?_
   refine ⟨_, rfl, ?_⟩
   first
    | (have h1 : b = true := by assumption
       have h2 : b = false := by assumption
       rw [h1] at h2; cases h2)
    | (have h1 : b = true := by assumption
       exact ⟨rfl, _, l2 ++ [41], st.bxDone (i := 2) (j := 3) rfl rfl rfl hB2.1 hB2.2 hn0, by rw [h1]; exact ((TxR.app l [40]).trans hT).trans (TxR.app l2 [41])⟩)
    | (have h1 : b = false := by assumption
       exact ⟨rfl, _, l2, st.bxDone (i := 1) (j := 2) rfl rfl rfl hB2.1 hB2.2 hn0, by rw [h1]; exact hT⟩)
theorem showO_any (k : Int) (w : World) (hs : Sig w) : Ret Tryz.prog 107 [.int .u8 k] w fun v w' => v = str (shwO k) ∧ w' = w := show_any k w hs

set_option maxHeartbeats 4000000 in
theorem text_any : ∀ (n : Nat) (e : Ex), szo e = n → ∀ (d : Nat), rightE e d = true → OkE e → ∀ (v : Value) (l : List UInt8) (w : World) (ll : List Value), ExV w (· < n0) e ll → w.ownsRow 0 5 1 v l.length (bytesL l) → (∀ k, v.ownBlock = some k → n0 ≤ k) → n0 ≤ w.heap.size → 0 < n0 → Sig w → l.length + (txtE e).length ≤ 1099511627776 →
      Ret Tryz.prog 47 [v, .agg ll.toArray] w fun r w' => ∃ l', RowP 5 v r l'.length (bytesL l') w w' ∧ TxR l (txtE e) l' := by
 intro n
 refine Nat.strongRecOn n fun n ih => ?_
 intro e hn d hR hok v l w ll hV ho hvn hn0 h0 hsg hl
 subst hn
 obtain ⟨oa, cap, rfl⟩ := slice_form ho
 obtain ⟨oe, ce, rfl, hr⟩ := ExV.inv hV
 refine ret_of [_, _] func47 rfl ntmps47 rfl ?_
 have st := St.init w []
 clear st
 obtain ⟨w0, rfl⟩ : ∃ w0, w0 = w := ⟨_, rfl⟩
 have st := St.frnInit ho
 have hMn : ∀ k ∈ (Value.slice oa l.length cap).ownBlock.toList, n0 ≤ k := fun k hk => hvn k (Option.mem_toList.1 hk)
 have hnot : ∀ {k : Nat}, k < n0 → k ∉ (Value.slice oa l.length cap).ownBlock.toList := fun hk h => by have := hMn _ h; omega
 have hsame : ∀ {w1 : World}, Chg (Value.slice oa l.length cap).ownBlock.toList w0 w1 → Same (· < n0) w0 w1 := fun c => ⟨c.size, fun k hk hs => c.block k hs (hnot hk)⟩
 refine sr ?_
 refine vc_e (e_bx (l := [_]) st rfl rfl rfl rfl ?_)
 intro b2 w hb2 st
 refine vc_e (e_bx (l := [_, _, _, _, _, _]) st rfl rfl rfl rfl ?_)
 intro b3 w hb3 st
 refine ya ?_
 refine et (vk2 2 3 (vc_seq (sr ?_)))
 replace st := st.pick [1, 2, 0] rfl (by decide)
 refine yl st 0 isAgg78 ?_
 refine vy (y_lensl rfl underlying78) ?_
 refine vy (y_gtr rfl rfl) ?_
 refine et (vk3 2 3 11 ?_)
 refine vif ?_ ?_
 ·intro hc11
  try simp only [dn] at hc11
  refine sr ?_
  refine yl st 0 isAgg78 ?_
  refine ya ?_
  refine et (vk1 4 (vc_ret (vq_then_ret ?_)))
  refine vr1 st results47 ?_
  exact ⟨l, st.frnDone (i := 1) rfl, TxR.skip (by omega) _⟩
 intro hc11
 try simp only [dn] at hc11
 refine kt (vk2 2 3 (sr ?_))
 refine vy (y_mf [] [_] rfl rfl) ?_
 refine ya ?_
 refine et (vk3 2 3 5 (vc_seq (sr ?_)))
 refine vy (y_fa0 rfl underlying42 rfl rfl sizeOf38 rfl) ?_
 refine yl st 2 isAgg38 ?_
 refine et (vk4 2 3 5 15 (vc_block (sr ?_)))
 refine vy (y_eqi rfl rfl) ?_
 refine ya ?_
 refine et (vk5 2 3 5 15 16 ?_)
 refine vif ?_ ?_
 ·intro hc16
  try simp only [dn] at hc16
  have hl1 := hl
  rw [txtE_1 hc16] at hl1
  refine ddr Tryz.mixed (.take 1 (.take 2 (.two 0 3 (.one 3 (.one 4 (.one 5 .done))) (.one 0 (.one 4 (.one 5 .done)))))) [.blk b3 (.cells (exL e oe ce).toArray 42 (0, 0))] st ?_
  clear st; intro w st hS
  refine dfz hS 2 underlying42 sizeOf2 ?_
  refine dld hS 0 isAgg2 ?_
  refine vd_two rfl rfl ?_ ?_
  refine (e_run rfl rfl (y_ld st 0 rfl isAgg78 rfl rfl) ?_)
  refine vd_next st.dr ?_; intro hS
  refine vd_do rfl (e_call [_] rfl rfl call76 rfl (wprint_any _ _ hok.wd) ?_)
  rintro _ w ⟨rfl, cw⟩
  replace st := st.call0 cw
  rotate_left
  refine (e_call [_] rfl rfl call76 rfl (wprint_any _ _ hok.wd) ?_)
  rintro _ w ⟨rfl, cw⟩
  replace st := st.call0 cw
  refine vd_next st.dr ?_; intro hS
  refine vd_do rfl (e_run rfl rfl (y_ld st 0 rfl isAgg78 rfl rfl) ?_)
  all_goals
   refine vd_next st.dr ?_; intro hS
   refine vd_do rfl (e_appsF (len' := (l ++ shw e.wd).length) (ys := bytesL (l ++ shw e.wd)) st 1 rfl rfl rfl rfl rfl underlying78 underlying9 Tryz.info5 rfl rfl rfl (List.length_append).symm (by simp [bytesL]) (by simp only [List.length_append, List.length_cons, List.length_nil]; omega) ?_)
   intro oaQ capQ w st; dsimp only [setNth] at st
   refine vd_next st.dr ?_; intro hS
   refine vd_do rfl (est st 0 sizeOf78 ?_)
   intro w st; dsimp only [setNth, wr] at st
   refine vd_next st.dr ?_; intro hS
   refine vd_end (vq_block (vq_then (vk1 2 (sr ?_))))
   refine yl st 0 isAgg78 ?_
   refine ya ?_
   refine et (vk1 4 (vc_ret ?_))
   refine vr1 st results47 ?_
   exact ⟨_, st.frnDone (i := 1) rfl, by rw [txtE_1 (e := e) (by assumption)]; exact TxR.app _ _⟩
 intro hc16
 try simp only [dn] at hc16
 refine sr ?_
 refine vy (y_eqi rfl rfl) ?_
 refine ya ?_
 refine et (vk5 2 3 5 15 23 ?_)
 refine vif ?_ ?_
 ·intro hc23
  try simp only [dn] at hc23
  have hl2 := hl
  rw [txtE_2 hc23] at hl2
  refine vc_region ?_
  refine yl st 0 isAgg78 ?_
  refine yfz 3 underlying42 sizeOf9 ?_
  refine yl st 2 isAgg9 ?_
  refine vc_e (e_appsF (len' := (l ++ e.nm).length) (ys := bytesL (l ++ e.nm)) st 1 rfl rfl rfl rfl rfl underlying78 underlying9 Tryz.info5 rfl rfl rfl (List.length_append).symm (by simp [bytesL]) (by simp only [List.length_append, List.length_cons, List.length_nil]; omega) ?_)
  intro oaQ capQ w st; dsimp only [setNth] at st
  refine vc_e (est st 0 sizeOf78 ?_)
  intro w st; dsimp only [setNth, wr] at st
  refine vc_end (vq_block (vq_then (vk1 2 (sr ?_))))
  refine yl st 0 isAgg78 ?_
  refine ya ?_
  refine et (vk1 4 (vc_ret ?_))
  refine vr1 st results47 ?_
  exact ⟨_, st.frnDone (i := 1) rfl, by rw [txtE_2 (e := e) (by assumption)]; exact TxR.app _ _⟩
 intro hc23
 try simp only [dn] at hc23
 refine sr ?_
 refine vy (y_eqi rfl rfl) ?_
 refine ya ?_
 refine et (vk5 2 3 5 15 29 ?_)
 refine vif ?_ ?_
 ·intro hc29
  try simp only [dn] at hc29
  have hk3 := hc29
  obtain ⟨x, hkx, d1, hR1⟩ := rightE_inv3 hR hk3
  have hx : e.kids[0]? = some x := by rw [hkx]; rfl
  have hk1 : e.kids.length = 1 := by rw [hkx]; rfl
  obtain ⟨gb, go, rfl, hgS, hgl, hg⟩ := ExRow.at hr (by omega)
  obtain ⟨o0, c0, hV0, hr0, hc0⟩ := hg 0 x hx
  have hl3 := hl
  rw [txtE_3 hk3 hkx, List.length_append] at hl3
  refine vc_seq ?_
  refine ddr Tryz.mixed (.take 1 (.take 2 (.two 0 3 (.one 3 (.one 4 (.one 5 .done))) (.one 0 (.one 4 (.one 5 .done)))))) [.blk b3 (.cells (exL e (some ⟨gb, go, none⟩) ce).toArray 42 (0, 0))] st ?_
  clear st; intro w st hS
  refine dfz hS 1 underlying42 sizeOf39 ?_
  refine dld hS 0 isAgg39 ?_
  refine vd_two rfl rfl ?_ ?_
  refine (e_run rfl rfl (y_ld st 0 rfl isAgg78 rfl rfl) ?_)
  refine vd_next st.dr ?_; intro hS
  refine vd_do rfl (e_call [_] rfl rfl call107 rfl (showO_any _ _ (hsg.kept' st.chg (hnot h0))) ?_)
  rintro _ _ ⟨rfl, rfl⟩
  rotate_left
  refine (e_call [_] rfl rfl call107 rfl (showO_any _ _ (hsg.kept' st.chg (hnot h0))) ?_)
  rintro _ _ ⟨rfl, rfl⟩
  refine vd_next st.dr ?_; intro hS
  refine vd_do rfl (e_run rfl rfl (y_ld st 0 rfl isAgg78 rfl rfl) ?_)
  all_goals
   refine vd_next st.dr ?_; intro hS
   refine vd_do rfl (e_appsF (len' := (l ++ shwO e.op).length) (ys := bytesL (l ++ shwO e.op)) st 1 rfl rfl rfl rfl rfl underlying78 underlying9 Tryz.info5 rfl rfl rfl (List.length_append).symm (by simp [bytesL]) (by simp only [List.length_append, List.length_cons, List.length_nil]; omega) ?_)
   intro oaQ capQ w st; dsimp only [setNth] at st
   refine vd_next st.dr ?_; intro hS
   refine vd_do rfl (est st 0 sizeOf78 ?_)
   intro w st; dsimp only [setNth, wr] at st
   refine vd_next st.dr ?_; intro hS
   refine vd_end (vq_then (vk3 2 3 5 ?_))
   refine vdr Tryz.mixed [Yt 0, Yt 1, Yt 2, Yt 3, Yt 4, Yt 5, Yt 6, Yt 7, Yt 8, Yt 9, Yt 10, Nt 11] [.blk b3 (.cells (exL e (some ⟨gb, go, none⟩) ce).toArray 42 (0, 0))] st ?_
   clear st; intro w st hS
   refine pm hS ?_
   refine pfz hS 4 underlying42 sizeOf40 ?_
   refine pld hS 0 isAgg40 ?_
   refine vp_take rfl rfl rfl hS (fun w st => y_ia (k := 0) rfl rfl underlying40 sizeOf42 rfl (by omega)) ?_
   refine vp_take rfl rfl rfl hS (fun w st => y_ldca (exL x o0 c0) rfl isAgg42 sizeOf42 rfl (fun i v hi => st.chg.cell (hc0 i v hi) (hnot hgS))) ?_
   refine pfz hS 4 underlying42 sizeOf40 ?_
   refine pld hS 0 isAgg40 ?_
   refine vp_take rfl rfl rfl hS (fun w st => y_ia (k := 0) rfl rfl underlying40 sizeOf42 rfl (by omega)) ?_
   refine pf0 hS underlying42 sizeOf38 ?_
   refine vp_take rfl rfl rfl hS (fun w st => y_ldc rfl isAgg38 (st.chg.cell (hc0 0 _ rfl) (hnot hgS))) ?_
   refine vp_take rfl rfl rfl hS (fun w st => y_eqi rfl rfl) ?_
   refine vp_do rfl (e_callv [_, _] rfl rfl rfl call106 rfl (tkid_any x (fun v l w ll hV ho hn h1 h2 h3 h4 => ih (szo x) (by have := mem_size hx; have := szo_kids e; omega) x rfl d1 hR1 (hok.kid hx) v l w ll hV ho hn h1 h2 h3 h4) _ _ _ b2 _ _ _ (hV0.kept (hsame st.chg)) (st.bxGet (n0 := n0) (by omega) (st.frnN (i := 1) rfl hMn hn0)) (Nat.le_trans hn0 st.chg.size) h0 (hsg.kept' st.chg (hnot h0)) (by simp only [List.length_append]; omega)) ?_)
   rintro _ w ⟨rfl, vQ, lA, hp, hTA⟩
   have hlQlA := hTA.2.2.1
   obtain ⟨oQ, cQ, hvQ⟩ := slice_form hp.1.2.1
   subst hvQ
   replace st := (st.bxCall (.inr hb2) hp).1
   refine vp_next st.dr ?_; intro hS
   refine vp_end (vq_block (vq_then (vk1 2 (sr ?_))))
   refine yl st 0 isAgg78 ?_
   refine ya ?_
   refine et (vk1 4 (vc_ret ?_))
   refine vr1 st results47 ?_
   exact ⟨_, st.frnDone (i := 1) rfl, by rw [txtE_3 (e := e) (by assumption) hkx]; exact (TxR.app _ _).trans hTA⟩
 intro hc29
 try simp only [dn] at hc29
 refine sr ?_
 refine vy (y_eqi rfl rfl) ?_
 refine ya ?_
 refine et (vk4 2 3 5 48 ?_)
 refine vif ?_ ?_
 ·intro hc48
  try simp only [dn] at hc48
  have hk4 := hc48
  obtain ⟨x, y, hkx, ⟨d1, hR1⟩, d2, hR2⟩ := rightE_inv4 hR hk4
  have hx : e.kids[0]? = some x := by rw [hkx]; rfl
  have hy : e.kids[1]? = some y := by rw [hkx]; rfl
  have hk2 : e.kids.length = 2 := by rw [hkx]; rfl
  obtain ⟨gb, go, rfl, hgS, hgl, hg⟩ := ExRow.at hr (by omega)
  obtain ⟨o0, c0, hV0, hr0, hc0⟩ := hg 0 x hx
  obtain ⟨o1, c1, hV1, hr1, hc1⟩ := hg 1 y hy
  have hl4 := hl
  rw [txtE_4 hk4 hkx] at hl4
  simp only [List.length_append, List.length_cons, List.length_nil] at hl4
  refine sr ?_
  refine yfz 1 underlying42 sizeOf39 ?_
  refine yl st 2 isAgg39 ?_
  refine vc_e (e_call [_] rfl rfl call105 rfl (level_any _ _ (hsg.kept' st.chg (hnot h0))) ?_)
  rintro _ _ ⟨rfl, rfl⟩
  refine ya ?_
  refine et (vk4 2 3 5 6 (vc_seq ?_))
  refine ddr Tryz.mixed (.take 0 (.take 1 (.take 2 (.take 3 (.take 4 (.take 5 (.take 6 (.take 7 (.two 8 9 (.one 9 (.one 10 (.one 11 .done))) (.one 8 (.one 10 (.one 11 .done)))))))))))) [.blk b3 (.cells (exL e (some ⟨gb, go, none⟩) ce).toArray 42 (0, 0))] st ?_
  clear st; intro w st hS
  refine dfz hS 4 underlying42 sizeOf40 ?_
  refine dld hS 0 isAgg40 ?_
  refine vd_take rfl rfl rfl hS (fun w st => y_ia (k := 0) rfl rfl underlying40 sizeOf42 rfl (by omega)) ?_
  refine vd_take rfl rfl rfl hS (fun w st => y_ldca (exL x o0 c0) rfl isAgg42 sizeOf42 rfl (fun i v hi => st.chg.cell (hc0 i v hi) (hnot hgS))) ?_
  refine dfz hS 4 underlying42 sizeOf40 ?_
  refine dld hS 0 isAgg40 ?_
  refine vd_take rfl rfl rfl hS (fun w st => y_ia (k := 1) rfl rfl underlying40 sizeOf42 rfl (by omega)) ?_
  refine vd_take rfl rfl rfl hS (fun w st => y_ldca (exL y o1 c1) rfl isAgg42 sizeOf42 rfl (fun i v hi => st.chg.cell (hc1 i v hi) (hnot hgS))) ?_
  refine vd_two rfl rfl ?_ ?_
  refine (e_al (l := [_, _, _, _, _, _]) st rfl rfl zeroValue42 rfl ?_)
  intro b7 w hb7 st
  refine vd_next st.dr ?_; intro hS
  refine vd_do rfl (e_al (l := [_, _, _, _, _, _]) st rfl rfl zeroValue42 rfl ?_)
  intro b8 w hb8 st
  rotate_left
  refine (e_al (l := [_, _, _, _, _, _]) st rfl rfl zeroValue42 rfl ?_)
  intro b8 w hb8 st
  refine vd_next st.dr ?_; intro hS
  refine vd_do rfl (e_al (l := [_, _, _, _, _, _]) st rfl rfl zeroValue42 rfl ?_)
  intro b7 w hb7 st
  all_goals
   refine vd_next st.dr ?_; intro hS
   first
   | refine vd_do rfl (ests st 0 [_, _, _, _, _, _] sizeOf42 ?_)
   | refine vd_do rfl (ests st 1 [_, _, _, _, _, _] sizeOf42 ?_)
   intro w st; dsimp only [setNth, wr] at st
   refine vd_next st.dr ?_; intro hS
   first
   | refine vd_do rfl (ests st 0 [_, _, _, _, _, _] sizeOf42 ?_)
   | refine vd_do rfl (ests st 1 [_, _, _, _, _, _] sizeOf42 ?_)
   intro w st; dsimp only [setNth, wr] at st
   refine vd_next st.dr ?_; intro hS
   refine vd_end (vq_then (vk6 2 3 5 6 7 8 (vc_seq ?_)))
   replace st := (by first | exact st.pick [2, 3, 1, 0, 4] rfl (by decide) | exact st.pick [2, 3, 0, 1, 4] rfl (by decide) : St w0 (Value.slice oa l.length cap).ownBlock.toList [_, _, .blk b7 (.cells (exL x o0 c0).toArray 42 (0, 0)), .blk b8 (.cells (exL y o1 c1).toArray 42 (0, 0)), .blk b3 (.cells (exL e (some ⟨gb, go, none⟩) ce).toArray 42 (0, 0))] _)
   refine vdr Tryz.mixed [Yt 0, Yt 1, Yt 2, Yt 3, Yt 4, Yt 5, Yt 6, Yt 7, Yt 9, Nt 8, Yt 10, Yt 11, Nt 12] [.blk b7 (.cells (exL x o0 c0).toArray 42 (0, 0)), .blk b8 (.cells (exL y o1 c1).toArray 42 (0, 0)), .blk b3 (.cells (exL e (some ⟨gb, go, none⟩) ce).toArray 42 (0, 0))] st ?_
   clear st; intro w st hS
   refine pm hS ?_
   refine vp_take rfl rfl rfl hS (fun w st => y_lda (vs := [_, _, _, _, _, _]) st 0 rfl isAgg42 sizeOf42 rfl rfl) ?_
   refine pf0 hS underlying42 sizeOf38 ?_
   refine pld hS 0 isAgg38 ?_
   refine vp_take rfl rfl rfl hS (fun w st => y_eqi rfl rfl) ?_
   refine vp_part rfl rfl rfl hS rfl ?_ ?_
   intro hg66
   try simp only [dn] at hg66
   refine pfz hS 1 underlying42 sizeOf39 ?_
   refine pld hS 0 isAgg39 ?_
   refine pm hS ?_
   refine vp_do rfl (e_call [_] rfl rfl call105 rfl (level_any _ _ (hsg.kept' st.chg (hnot h0))) ?_)
   rintro _ _ ⟨rfl, rfl⟩
   refine vp_next st.dr ?_; intro hS
   refine vp_take rfl rfl rfl hS (fun w st => y_lss rfl rfl) ?_
   refine vp_take rfl rfl rfl hS (fun w st => y_pickt rfl rfl) ?_
   rotate_left
   intro hg66
   try simp only [dn] at hg66
   iterate 3 refine vp_skip rfl rfl rfl hS ?_
   refine vp_do rfl (e_skip rfl rfl (vp_next hS (fun hS => ?_)))
   refine vp_skip rfl rfl rfl hS ?_
   refine vp_take rfl rfl rfl hS (fun w st => y_pickf rfl rfl) ?_
   all_goals
    refine vp_do rfl (e_callv [_, _] rfl rfl rfl call106 rfl (tkid_any x (fun v l w ll hV ho hn h1 h2 h3 h4 => ih (szo x) (by have := mem_size hx; have := szo_kids e; omega) x rfl d1 hR1 (hok.kid hx) v l w ll hV ho hn h1 h2 h3 h4) _ _ _ b2 _ _ _ (hV0.kept (hsame st.chg)) (st.bxGet (n0 := n0) (by omega) (st.frnN (i := 1) rfl hMn hn0)) (Nat.le_trans hn0 st.chg.size) h0 (hsg.kept' st.chg (hnot h0)) (by first | (rw [← inn_f (op := e.op) (by assumption)]; omega) | (rw [← inn_n (op := e.op) (b := false) (by assumption)]; omega))) ?_)
    rintro _ w ⟨rfl, vQ, lA, hp, hTA⟩
    have hlQlA := hTA.2.2.1
    obtain ⟨oQ, cQ, hvQ⟩ := slice_form hp.1.2.1
    subst hvQ
    replace st := (st.bxCall (.inr hb2) hp).1
    have hA : TxR l (par (inn e.op x false) (txtE x)) lA := by
     first | (rw [inn_f (by assumption)]; exact hTA) | (rw [inn_n (by assumption)]; exact hTA)
    have hA3 := hA.2.2.1
    have hso := shwO_len e.op
    refine vp_next st.dr ?_; intro hS
    refine vp_end (vq_then (vk5 2 3 5 6 8 (sr ?_)))
    refine yl st 0 isAgg78 ?_
    refine vc_e (e_bs1 (l := [_]) st rfl rfl rfl rfl underlying78 sizeOf5 rfl rfl rfl zeroValue5 ?_)
    intro b75 w hb75 st
    refine vc_e (e_appF (bytes := 1) (l := [.int .u8 32]) (len' := (lA ++ [32]).length) (ys := bytesL (lA ++ [32])) st 2 0 rfl rfl rfl rfl rfl rfl underlying78 Tryz.info5 rfl rfl rfl rfl rfl rfl rfl (by unfold maxLen; (try simp only [List.length_append, List.length_cons, List.length_nil]); omega) (by (try simp only [List.length_append, List.length_cons, List.length_nil]); omega) (by simp only [List.length_append, List.length_cons, List.length_nil, Nat.zero_add]) (by simp [bytesL]) ?_)
    intro oaQ capQ w st; dsimp only [setNth] at st
    refine vc_e (est st 1 sizeOf78 ?_)
    intro w st; dsimp only [setNth, wr] at st
    refine et (vk5 2 3 5 6 8 (vc_seq ?_))
    replace st := st.pick [1, 2, 3, 4, 5] rfl (by decide)
    refine ddr Tryz.mixed (.take 1 (.take 2 (.two 0 3 (.one 3 (.one 4 (.one 5 .done))) (.one 0 (.one 4 (.one 5 .done)))))) [.blk b7 (.cells (exL x o0 c0).toArray 42 (0, 0)), .blk b8 (.cells (exL y o1 c1).toArray 42 (0, 0)), .blk b3 (.cells (exL e (some ⟨gb, go, none⟩) ce).toArray 42 (0, 0))] st ?_
    clear st; intro w st hS
    refine dfz hS 1 underlying42 sizeOf39 ?_
    refine dld hS 2 isAgg39 ?_
    refine vd_two rfl rfl ?_ ?_
    refine (e_run rfl rfl (y_ld st 0 rfl isAgg78 rfl rfl) ?_)
    refine vd_next st.dr ?_; intro hS
    refine vd_do rfl (e_call [_] rfl rfl call107 rfl (showO_any _ _ (hsg.kept' st.chg (hnot h0))) ?_)
    rintro _ _ ⟨rfl, rfl⟩
    rotate_left
    refine (e_call [_] rfl rfl call107 rfl (showO_any _ _ (hsg.kept' st.chg (hnot h0))) ?_)
    rintro _ _ ⟨rfl, rfl⟩
    refine vd_next st.dr ?_; intro hS
    refine vd_do rfl (e_run rfl rfl (y_ld st 0 rfl isAgg78 rfl rfl) ?_)
    all_goals
     refine vd_next st.dr ?_; intro hS
     refine vd_do rfl (e_appsF (len' := ((lA ++ [32]) ++ shwO e.op).length) (ys := bytesL ((lA ++ [32]) ++ shwO e.op)) st 1 rfl rfl rfl rfl rfl underlying78 underlying9 Tryz.info5 rfl rfl rfl (List.length_append).symm (by simp [bytesL]) (by simp only [List.length_append, List.length_cons, List.length_nil]; omega) ?_)
     intro oaQ capQ w st; dsimp only [setNth] at st
     refine vd_next st.dr ?_; intro hS
     refine vd_do rfl (est st 0 sizeOf78 ?_)
     intro w st; dsimp only [setNth, wr] at st
     refine vd_next st.dr ?_; intro hS
     refine vd_end (vq_then (vk4 2 5 6 8 (sr ?_)))
     refine yl st 0 isAgg78 ?_
     refine vc_e (e_bs1 (l := [_]) st rfl rfl rfl rfl underlying78 sizeOf5 rfl rfl rfl zeroValue5 ?_)
     intro b83 w hb83 st
     refine vc_e (e_appF (bytes := 1) (l := [.int .u8 32]) (len' := ((lA ++ [32] ++ shwO e.op) ++ [32]).length) (ys := bytesL ((lA ++ [32] ++ shwO e.op) ++ [32])) st 2 0 rfl rfl rfl rfl rfl rfl underlying78 Tryz.info5 rfl rfl rfl rfl rfl rfl rfl (by unfold maxLen; (try simp only [List.length_append, List.length_cons, List.length_nil]); omega) (by (try simp only [List.length_append, List.length_cons, List.length_nil]); omega) (by simp only [List.length_append, List.length_cons, List.length_nil, Nat.zero_add]) (by simp [bytesL]) ?_)
     intro oaQ capQ w st; dsimp only [setNth] at st
     refine vc_e (est st 1 sizeOf78 ?_)
     intro w st; dsimp only [setNth, wr] at st
     refine et (vk4 2 5 6 8 ?_)
     replace st := st.pick [1, 2, 3, 4, 5] rfl (by decide)
     refine vdr Tryz.mixed [Yt 0, Yt 1, Yt 2, Yt 3, Yt 4, Yt 5, Yt 6, Yt 7, Yt 9, Nt 8, Yt 10, Yt 11, Nt 12] [.blk b7 (.cells (exL x o0 c0).toArray 42 (0, 0)), .blk b8 (.cells (exL y o1 c1).toArray 42 (0, 0)), .blk b3 (.cells (exL e (some ⟨gb, go, none⟩) ce).toArray 42 (0, 0))] st ?_
     clear st; intro w st hS
     refine pm hS ?_
     refine vp_take rfl rfl rfl hS (fun w st => y_lda (vs := [_, _, _, _, _, _]) st 1 rfl isAgg42 sizeOf42 rfl rfl) ?_
     refine pf0 hS underlying42 sizeOf38 ?_
     refine pld hS 1 isAgg38 ?_
     refine vp_take rfl rfl rfl hS (fun w st => y_eqi rfl rfl) ?_
     refine vp_part rfl rfl rfl hS rfl ?_ ?_
     intro hg90
     try simp only [dn] at hg90
     refine pfz hS 1 underlying42 sizeOf39 ?_
     refine pld hS 1 isAgg39 ?_
     refine pm hS ?_
     refine vp_do rfl (e_call [_] rfl rfl call105 rfl (level_any _ _ (hsg.kept' st.chg (hnot h0))) ?_)
     rintro _ _ ⟨rfl, rfl⟩
     refine vp_next st.dr ?_; intro hS
     refine vp_take rfl rfl rfl hS (fun w st => y_leq rfl rfl) ?_
     refine vp_take rfl rfl rfl hS (fun w st => y_pickt rfl rfl) ?_
     rotate_left
     intro hg90
     try simp only [dn] at hg90
     iterate 3 refine vp_skip rfl rfl rfl hS ?_
     refine vp_do rfl (e_skip rfl rfl (vp_next hS (fun hS => ?_)))
     refine vp_skip rfl rfl rfl hS ?_
     refine vp_take rfl rfl rfl hS (fun w st => y_pickf rfl rfl) ?_
     all_goals
      refine vp_do rfl (e_callv [_, _] rfl rfl rfl call106 rfl (tkid_any y (fun v l w ll hV ho hn h1 h2 h3 h4 => ih (szo y) (by have := mem_size hy; have := szo_kids e; omega) y rfl d2 hR2 (hok.kid hy) v l w ll hV ho hn h1 h2 h3 h4) _ _ _ b2 _ _ _ (hV1.kept (hsame st.chg)) (st.bxGet (n0 := n0) (by omega) (st.frnN (i := 1) rfl hMn hn0)) (Nat.le_trans hn0 st.chg.size) h0 (hsg.kept' st.chg (hnot h0)) (by simp only [List.length_append, List.length_cons, List.length_nil]; first | (rw [← inn_t (op := e.op) (by assumption)]; omega) | (rw [← inn_n (op := e.op) (b := true) (by assumption)]; omega))) ?_)
      rintro _ w ⟨rfl, vQ, lB, hp, hTB⟩
      have hlQlB := hTB.2.2.1
      obtain ⟨oQ, cQ, hvQ⟩ := slice_form hp.1.2.1
      subst hvQ
      replace st := (st.bxCall (.inr hb2) hp).1
      refine vp_next st.dr ?_; intro hS
      refine vp_end (vq_block (vq_then (vk1 2 (sr ?_))))
      refine yl st 0 isAgg78 ?_
      refine ya ?_
      refine et (vk1 4 (vc_ret ?_))
      refine vr1 st results47 ?_
      first
       | (refine ⟨_, st.frnDone (i := 1) rfl, ?_⟩
          have hB : TxR (lA ++ [32] ++ shwO e.op ++ [32]) (par (inn e.op y true) (txtE y)) lB := by
            first | (rw [inn_t (by assumption)]; exact hTB) | (rw [inn_n (by assumption)]; exact hTB)
          rw [txtE_4 (e := e) (by assumption) hkx]
          have := (((hA.trans (TxR.app lA [32])).trans (TxR.app _ (shwO e.op))).trans (TxR.app _ [32])).trans hB
          simpa only [List.append_assoc] using this)
 intro hc48
 try simp only [dn] at hc48
 refine vc_code_skip (vq_block (vq_then (vk1 2 (sr ?_))))
 refine yl st 0 isAgg78 ?_
 refine ya ?_
 refine et (vk1 4 (vc_ret ?_))
 refine vr1 st results47 ?_
 (exfalso; rcases rightE_kind hR with h | h | h | h <;> contradiction)
end
end Go.Proofs.YtnmhlpnapgojjaaGreatDoor


namespace Go.Proofs.YtnmhlpnapgojjaaGreatDoor
open Go.RowKit Sx LexS _root_.Go.Proofs.Tryz
section
variable {n0 : Nat}

theorem first_any (es : List Ex) (x : Ex) (hx : es[0]? = some x) (d : Nat) (hR : rightE x d = true) (hok : OkE x) (oa : Option Addr) (cap : Nat) (w : World) (hr : ExRow w (· < n0) oa es) (hn0 : n0 ≤ w.heap.size) (h0 : 0 < n0) (hsg : Sig w) (hl : (txtE x).length ≤ 1099511627776) :
    Ret Tryz.prog 156 [.slice oa es.length cap] w fun v w' => ∃ r, v = str r ∧ TxR [] (txtE x) r ∧ Chg [] w w' := by
 refine ret_of [_] func156 rfl ntmps156 rfl ?_
 have st := St.init w []
 obtain ⟨w0, rfl⟩ : ∃ w0, w0 = w := ⟨_, rfl⟩
 have hlen : 0 < es.length := (List.getElem?_eq_some_iff.1 hx).1
 obtain ⟨gb, go, rfl, hgS, hgl, hg⟩ := ExRow.at hr hlen
 obtain ⟨o0, c0, hV0, hr0, hc0⟩ := hg 0 x hx
 refine sr ?_
 refine ya ?_
 refine et (vk1 0 (sr ?_))
 refine ym ?_
 refine vy (y_ia (k := 0) rfl rfl underlying40 sizeOf42 rfl (by omega)) ?_
 refine vy (y_ldca (exL x o0 c0) rfl isAgg42 sizeOf42 rfl (fun i v hi => st.chg.cell (hc0 i v hi) (by simp))) ?_
 refine vc_e (e_call [_, _] rfl rfl call47 rfl (text_any _ x rfl d hR hok (.slice none 0 0) [] _ _ (hV0.kept st.sm) (World.ownsRow_nil _ 0 5 1) (fun k hk => by simp [Value.ownBlock] at hk) (Nat.le_trans hn0 st.chg.size) h0 (hsg.kept st.chg) (by simpa using hl)) ?_)
 rintro r w ⟨l2, hp, hT⟩
 obtain ⟨o2, c2, hv2⟩ := slice_form hp.1
 subst hv2
 replace st := st.call0 (by simpa [Value.ownBlock] using hp.2.1)
 refine vy (y_b2s rfl (p := l2) (own_rdp hp.1) rfl underlying78 underlying5 underlying9) ?_
 refine ya ?_
 refine et (vk1 2 (vc_ret ?_))
 refine vr1 st results156 ?_
 exact ⟨l2, rfl, hT, st.chg⟩
end
end Go.Proofs.YtnmhlpnapgojjaaGreatDoor


namespace Go.Proofs.YtnmhlpnapgojjaaGreatDoor
open Go.RowKit Sx LexS _root_.Go.Proofs.Tryz
theorem wrap_i64 (n : Int) (h : -9223372036854775808 ≤ n ∧ n ≤ 9223372036854775807) : IntKind.i64.wrap n = n := by
 simp only [IntKind.wrap, IntKind.bits, IntKind.signed]
 simp
 omega
theorem all_take' {α : Type} {p : α → Bool} {l : List α} {j : Nat} {x : α} (h : (l.take j).all p = true) (hx : l[j]? = some x) (hp : p x = true) : (l.take (j + 1)).all p = true := by
 obtain ⟨hj, e⟩ := List.getElem?_eq_some_iff.1 hx
 rw [List.take_succ_eq_append_getElem hj, List.all_append, h, e]
 simpa using hp
theorem all_no' {α : Type} {p : α → Bool} {l : List α} {j : Nat} {x : α} (hx : l[j]? = some x) (hp : p x = false) : l.all p = false := by
 rw [List.all_eq_false]
 exact ⟨x, List.mem_of_getElem? hx, by rw [hp]; simp⟩
theorem all_end {α : Type} {p : α → Bool} {l : List α} {j : Nat} (h : (l.take j).all p = true) (hj : l.length ≤ j) : l.all p = true := by
 rwa [List.take_of_length_le hj] at h
theorem rightSs_eq : ∀ (l : List Sm) (d : Nat), rightSs l d = l.all (rightS · d)
 | [], d => rfl
 | s :: r, d => by simp only [rightSs, List.all_cons]; rw [rightSs_eq r d]
theorem rightS_iff {s : Sm} {d : Nat} : rightS s d = true ↔ (1 ≤ s.k ∧ s.k ≤ 7) ∧ nmOk (hasN s.k) s.nm = true ∧ nmOk (decide (s.k = 2)) s.other = true ∧ rightX (hasE s.k) s.e = true ∧ (hasB s.k = true ∨ s.body.length = 0) ∧ (s.k = 3 ∨ s.els.length = 0) ∧
    ((hasB s.k = false ∧ s.els.length = 0) ∨ d < 64) ∧ rightSs s.body (d + 1) = true ∧ rightSs s.els (d + 1) = true := by
 cases s with
 | mk k nm other e body els a =>
  simp only [rightS, Bool.and_eq_true, Bool.or_eq_true, decide_eq_true_eq, Bool.not_eq_true', Bool.or_eq_false_iff, decide_eq_false_iff_not, Sm.k, Sm.nm, Sm.other, Sm.e, Sm.body, Sm.els]
  have e : (¬ 0 < els.length) ↔ els.length = 0 := by omega
  rw [e]
  constructor
  ·rintro ⟨⟨⟨⟨⟨⟨⟨⟨h1, h2⟩, h3⟩, h4⟩, h5⟩, h6⟩, h7⟩, h8⟩, h9⟩
   exact ⟨h1, h2, h3, h4, h5, h6, h7, h8, h9⟩
  ·rintro ⟨h1, h2, h3, h4, h5, h6, h7, h8, h9⟩
   exact ⟨⟨⟨⟨⟨⟨⟨⟨h1, h2⟩, h3⟩, h4⟩, h5⟩, h6⟩, h7⟩, h8⟩, h9⟩
theorem rightX_t {e : List Ex} {x : Ex} (h : e.length = 1) (hx : e[0]? = some x) : rightX true e = rightE x 0 := by
 rw [one_form h hx]; rfl
theorem rightX_n {e : List Ex} (h : e.length ≠ 1) : rightX true e = false := by
 unfold rightX
 rcases e with _ | ⟨x, _ | ⟨y, r⟩⟩ <;> simp_all
theorem rightX_f {e : List Ex} : rightX false e = decide (e.length = 0) := rfl
theorem rightS_no {l : List Sm} {s : Sm} {d j : Nat} (hj : l[j]? = some s) (h : rightS s d = true → False) : Value.bool false = Value.bool (rightSs l d) := by
 rw [rightSs_no (s := s) (by cases hr : rightS s d; rfl; exact (h hr).elim) hj]
theorem sm_kids (s : Sm) : szo s.body < szo s ∧ szo s.els < szo s := by cases s; exact sm_size
/-- what a kind of statement has -/
abbrev shpL (k : Int) : List Value := [.bool (hasN k), .bool (decide (k = 2)), .bool (hasE k), .bool (hasB k), .bool (decide (k = 3))]
def tabL : List Value := [.bool false, .bool false, .bool false, .bool false, .bool false,
  .bool true, .bool false, .bool true, .bool false, .bool false, .bool true, .bool true, .bool true, .bool false, .bool false,
  .bool false, .bool false, .bool true, .bool true, .bool true, .bool false, .bool false, .bool true, .bool true, .bool false,
  .bool true, .bool false, .bool false, .bool true, .bool false, .bool false, .bool false, .bool true, .bool false, .bool false,
  .bool false, .bool false, .bool false, .bool false, .bool false]
theorem tab_at {w : World} {b E : Nat} (h : w.heap[b]? = some (.cells tabL.toArray E (0, 0))) {m : Nat} (hm : m < 8) : ∀ (i : Nat) v, (shpL m)[i]? = some v → w.cell? ⟨b, 0 + m * 5 + i, none⟩ = some v := by
 intro i v hi
 refine cell_nth h ?_
 rcases (show m = 0 ∨ m = 1 ∨ m = 2 ∨ m = 3 ∨ m = 4 ∨ m = 5 ∨ m = 6 ∨ m = 7 by omega) with rfl | rfl | rfl | rfl | rfl | rfl | rfl | rfl <;>
  (rcases i with _ | _ | _ | _ | _ | i <;> first | (simp at hi; done) | (simp at hi; subst hi; rfl))
end Go.Proofs.YtnmhlpnapgojjaaGreatDoor


namespace Go.Proofs.YtnmhlpnapgojjaaGreatDoor
open Go.RowKit Sx LexS _root_.Go.Proofs.Tryz
theorem flat_succ {ps : List (List UInt8)} {j : Nat} {x : List UInt8} (h : ps[j]? = some x) : (ps.take (j + 1)).flatten = (ps.take j).flatten ++ x := by
 obtain ⟨hj, e⟩ := List.getElem?_eq_some_iff.1 h
 rw [List.take_succ_eq_append_getElem hj, e]; simp
theorem flat_le (ps : List (List UInt8)) (j : Nat) : (ps.take j).flatten.length ≤ ps.flatten.length := by
 conv => rhs; rw [← List.take_append_drop j ps, List.flatten_append, List.length_append]
 omega
theorem mar_len (d : Nat) : (mar d).length = 2 * d := by simp [mar]
section
variable {n0 : Nat}

set_option maxHeartbeats 2000000 in
theorem line_any (hRep : ∀ (d : Nat) (w : World), d ≤ 1000 → Ret Tryz.prog 95 [str [32, 32], .int .i64 (d : Int)] w fun v w' => v = str (mar d) ∧ Chg [] w w') (bw : Nat) (v : Value) (F : List UInt8) (d : Nat) (hd : d ≤ 1000) (ps : List (List UInt8)) (hpl : ps.length ≤ 100) (hsum : ps.flatten.length ≤ 70368744177664) (pb pc : Nat) (w : World)
    (hW : Wr 5 n0 80 bw v F w) (hn0 : n0 ≤ w.heap.size) (hp : ∀ (j : Nat) x, ps[j]? = some x → w.cell? ⟨pb, j, none⟩ = some (str x)) (hpn : pb ∉ bw :: v.ownBlock.toList) :
  Ret Tryz.prog 40 [.pointer (some ⟨bw, 0, none⟩), .int .i64 (d : Int), .slice (some ⟨pb, 0, none⟩) ps.length pc] w fun r w' => r = .tuple #[] ∧ WrP 5 n0 80 bw v (F ++ (mar d ++ ps.flatten ++ [10])) w w' := by
 have hbw := hW.lt bw (.head _)
 obtain ⟨l, many, oa, cap, rfl, hws, h1, h2, st0⟩ := St.wrOpen hW
 have hle := hws.le
 have hmar := mar_len d
 refine ret_of [_, _, _] func40 rfl ntmps40 rfl ?_
 have st := St.init w []
 clear st
 obtain ⟨w0, rfl⟩ : ∃ w0, w0 = w := ⟨_, rfl⟩
 have st := st0
 clear st0
 refine vc_seq (sr ?_)
 refine ym ?_
 refine ynk ?_
 refine yfz 1 underlying80 sizeOf4 ?_
 refine yl st 0 isAgg4 ?_
 refine et (vk4 0 1 2 14 ?_)
 refine vif ?_ ?_
 ·intro hc14
  try simp only [dn] at hc14
  refine vc_ret (vq_then_ret ?_)
  refine vq_ret0 (.inl rfl) results40 ?_
  refine ⟨_, rfl, ?_⟩
  have hm : many = true := by assumption
  subst hm
  exact ⟨rfl, st.wrClose (i := 0) (j := 1) rfl rfl rfl (hws.over _) h1 h2 hbw hn0⟩
 intro hc14
 try simp only [dn] at hc14
 obtain rfl : many = false := by assumption
 refine kt (vk3 0 1 2 (sr ?_))
 refine ym ?_
 refine vy (y_mulk rfl rfl (by rw [wrap_i64 _ (by omega)]; omega : _ = ((2 * d : Nat) : Int))) ?_
 refine vy (y_add rfl rfl (by omega : _ = ((2 * d + 1 : Nat) : Int)) (by omega) (by omega)) ?_
 refine ya ?_
 refine et (vk4 0 1 2 6 (vc_seq (sr ?_)))
 refine ym ?_
 refine vy (y_lensl rfl underlying50) ?_
 refine ym ?_
 refine et (vk7 0 1 2 6 18 19 20 (vc_block ?_))
 refine vc_loop (w0 := w0) (M := (bw :: (Value.slice oa l.length cap).ownBlock.toList)) (fun (j : Nat) => [(0, .pointer (some ⟨bw, 0, none⟩)), (1, .int .i64 (d : Int)), (2, .slice (some ⟨pb, 0, none⟩) ps.length pc), (6, .int .i64 ((2 * d + 1 + (ps.take j).flatten.length : Nat) : Int)), (18, .slice (some ⟨pb, 0, none⟩) ps.length pc), (19, .int .i64 (ps.length : Int)), (20, .int .i64 (j : Int))]) (fun _ => [.blk bw (.cells [.slice oa l.length cap, .bool false].toArray 80 (0, 0)), frn (bw :: (Value.slice oa l.length cap).ownBlock.toList) w0.heap.size 5 (.slice oa l.length cap) l.length (bytesL l)]) (fun j _ => j ≤ ps.length) (fun j => ps.length - j) 0 ⟨rfl, rfl, rfl, by simp [find, Nat.beq], rfl, rfl, rfl, trivial⟩ st (by omega) ?_
 clear st
 rintro j w hj st
 refine sr ?_
 refine vy (y_lss rfl rfl) ?_
 refine et (vk8 0 1 2 6 18 19 20 21 (vc_seq ?_))
 refine vif ?_ ?_
 ·intro hc21
  try simp only [dn] at hc21
  obtain ⟨x, hx⟩ : ∃ x, ps[j]? = some x := ⟨_, List.getElem?_eq_getElem (by omega)⟩
  have hcx := hp j x hx
  have hfs := flat_succ hx
  have hfl := flat_le ps (j + 1)
  have hfe := congrArg List.length hfs
  rw [List.length_append] at hfe
  refine kt (vk7 0 1 2 6 18 19 20 (vc_seq (vc_block (sr ?_))))
  refine vy (y_ia0 (k := j) rfl rfl underlying50 sizeOf9 rfl (by omega)) ?_
  refine vy ((by exact y_ldc rfl isAgg9 (st.chg.cell (by rw [Nat.mul_one]; exact hcx) hpn))) ?_
  refine ya ?_
  refine et (vk8 0 1 2 6 8 18 19 20 (vc_region ?_))
  iterate 2 refine ym ?_
  refine vy (y_lens rfl underlying9) ?_
  refine vy (y_add rfl rfl (by omega : _ = ((2 * d + 1 + (ps.take (j + 1)).flatten.length : Nat) : Int)) (by omega) (by omega)) ?_
  refine ya ?_
  refine vc_end (vq_block (vq_then (vk7 0 1 2 6 18 19 20 (vc_region ?_))))
  refine vy (y_add rfl rfl (by omega : _ = ((j + 1 : Nat) : Int)) (by omega) (by omega)) ?_
  refine ym ?_
  refine vc_end ?_
  refine vq_again (j + 1)  ⟨rfl, rfl, rfl, rfl, rfl, rfl, rfl, trivial⟩ st ?_ ?_
  ·omega
  omega
 intro hc21
 try simp only [dn] at hc21
 obtain rfl : j = ps.length := by omega
 rw [List.take_length] at *
 refine vc_exit (vq_then_exit (vq_then_exit (vq_block_exit (vq_then (vk4 0 1 2 6 (vc_seq (sr ?_)))))))
 refine ym ?_
 refine ynk ?_
 refine vy (y_fa0 rfl underlying80 rfl rfl sizeOf78 rfl) ?_
 refine yl st 0 isAgg78 ?_
 refine vy (y_lensl rfl underlying78) ?_
 refine ym ?_
 refine vy (y_add rfl rfl (by omega : _ = ((l.length + (2 * d + 1 + ps.flatten.length) : Nat) : Int)) (by omega) (by omega)) ?_
 refine vy (y_gtr rfl rfl) ?_
 refine et (vk4 0 1 2 36 ?_)
 refine vif ?_ ?_
 ·intro hc36
  try simp only [dn] at hc36
  refine sr ?_
  refine ym ?_
  refine ynk ?_
  refine yfz 1 underlying80 sizeOf4 ?_
  refine vc_e (est st 0 sizeOf4 ?_)
  intro w st; dsimp only [setNth, wr] at st
  refine et (vc_keep [] trivial (vc_ret (vq_then_ret ?_)))
  refine vq_ret0 (.inl rfl) results40 ?_
  refine ⟨_, rfl, ?_⟩
  exact ⟨rfl, st.wrClose (i := 0) (j := 1) rfl rfl rfl (hws.no' rfl (by simp only [List.length_append, List.length_cons, List.length_nil]; omega)) h1 h2 hbw hn0⟩
 intro hc36
 try simp only [dn] at hc36
 refine kt (vk3 0 1 2 (vc_seq ?_))
 refine ddr Tryz.mixed (.take 0 (.take 1 (.take 2 (.take 3 (.take 5 (.two 4 6 (.one 6 (.one 7 (.take 8 (.take 9 (.one 10 .done))))) (.one 4 (.one 7 (.take 8 (.take 9 (.one 10 .done))))))))))) [] st ?_
 clear st; intro w st hS
 iterate 2 refine dm hS ?_
 refine dnk hS ?_
 refine df0 hS underlying80 sizeOf78 ?_
 refine dm hS ?_
 refine vd_two rfl rfl ?_ ?_
 refine (e_run rfl rfl (y_ld st 0 rfl isAgg78 rfl rfl) ?_)
 refine vd_next st.dr ?_; intro hS
 refine vd_do rfl (e_call [_, _] rfl rfl call95 rfl (hRep d _ hd) ?_)
 rintro _ w ⟨rfl, cw⟩
 replace st := st.call0 cw
 rotate_left
 refine (e_call [_, _] rfl rfl call95 rfl (hRep d _ hd) ?_)
 rintro _ w ⟨rfl, cw⟩
 replace st := st.call0 cw
 refine vd_next st.dr ?_; intro hS
 refine vd_do rfl (e_run rfl rfl (y_ld st 0 rfl isAgg78 rfl rfl) ?_)
 all_goals
  refine vd_next st.dr ?_; intro hS
  refine vd_do rfl (e_appsF (len' := (l ++ mar d).length) (ys := bytesL (l ++ mar d)) st 1 rfl rfl rfl rfl rfl underlying78 underlying9 Tryz.info5 rfl rfl rfl (List.length_append).symm (by simp [bytesL]) (by simp only [List.length_append]; omega) ?_)
  intro oaQ capQ w st; dsimp only [setNth] at st
  refine vd_next st.dr ?_; intro hS
  refine dnk hS ?_
  refine df0 hS underlying80 sizeOf78 ?_
  refine vd_do rfl (est st 0 sizeOf78 ?_)
  intro w st; dsimp only [setNth, wr] at st
  refine vd_next st.dr ?_; intro hS
  refine vd_end (vq_then (vk2 0 2 (vc_seq (sr ?_))))
  refine ym ?_
  refine vy (y_lensl rfl underlying50) ?_
  refine ym ?_
  refine et (vk4 0 50 51 52 (vc_block ?_))
  refine vc_loop (w0 := w0) (M := (bw :: (Value.slice oa l.length cap).ownBlock.toList)) (fun (y : Nat × Option Addr × Nat) => [(0, .pointer (some ⟨bw, 0, none⟩)), (50, .slice (some ⟨pb, 0, none⟩) ps.length pc), (51, .int .i64 (ps.length : Int)), (52, .int .i64 (y.1 : Int))]) (fun y => [.blk bw (.cells [.slice y.2.1 (l ++ mar d ++ (ps.take y.1).flatten).length y.2.2, .bool false].toArray 80 (0, 0)), frn (bw :: (Value.slice oa l.length cap).ownBlock.toList) w0.heap.size 5 (.slice y.2.1 (l ++ mar d ++ (ps.take y.1).flatten).length y.2.2) (l ++ mar d ++ (ps.take y.1).flatten).length (bytesL (l ++ mar d ++ (ps.take y.1).flatten))]) (fun y _ => y.1 ≤ ps.length) (fun y => ps.length - y.1) (0, oaQ, capQ) ⟨rfl, rfl, rfl, rfl, trivial⟩ (by simpa only [List.take_zero, List.flatten_nil, List.append_nil] using st) (by simp) ?_
  clear st
  rintro ⟨j, oj, cj⟩ w hj st
  dsimp only at *
  refine sr ?_
  refine vy (y_lss rfl rfl) ?_
  refine et (vk5 0 50 51 52 53 (vc_seq ?_))
  refine vif ?_ ?_
  ·intro hc53
   try simp only [dn] at hc53
   obtain ⟨x, hx⟩ : ∃ x, ps[j]? = some x := ⟨_, List.getElem?_eq_getElem (by omega)⟩
   have hcx := hp j x hx
   have hfs := flat_succ hx
   have hfl := flat_le ps (j + 1)
   have hfe := congrArg List.length hfs
   rw [List.length_append] at hfe
   refine kt (vk4 0 50 51 52 (vc_seq (vc_block (sr ?_))))
   refine vy (y_ia0 (k := j) rfl rfl underlying50 sizeOf9 rfl (by omega)) ?_
   refine vy ((by exact y_ldc rfl isAgg9 (st.chg.cell (by rw [Nat.mul_one]; exact hcx) hpn))) ?_
   refine ya ?_
   refine et (vk5 0 10 50 51 52 (vc_region ?_))
   iterate 2 refine ym ?_
   refine ynk ?_
   refine vy (y_fa0 rfl underlying80 rfl rfl sizeOf78 rfl) ?_
   refine yl st 0 isAgg78 ?_
   refine ym ?_
   refine vc_e (e_appsF (len' := (l ++ mar d ++ (ps.take j).flatten ++ x).length) (ys := bytesL (l ++ mar d ++ (ps.take j).flatten ++ x)) st 1 rfl rfl rfl rfl rfl underlying78 underlying9 Tryz.info5 rfl rfl rfl (List.length_append).symm (by simp [bytesL]) (by simp only [List.length_append]; omega) ?_)
   intro oaQ capQ w st; dsimp only [setNth] at st
   refine ynk ?_
   refine vy (y_fa0 rfl underlying80 rfl rfl sizeOf78 rfl) ?_
   refine vc_e (est st 0 sizeOf78 ?_)
   intro w st; dsimp only [setNth, wr] at st
   refine vc_end (vq_block (vq_then (vk4 0 50 51 52 (vc_region ?_))))
   refine vy (y_add rfl rfl (by omega : _ = ((j + 1 : Nat) : Int)) (by omega) (by omega)) ?_
   refine ym ?_
   refine vc_end ?_
   refine vq_again (j + 1, oaQ, capQ)  ⟨rfl, rfl, rfl, rfl, trivial⟩ (by rw [hfs]; simpa only [List.append_assoc] using st) ?_ ?_
   ·dsimp only; omega
   ·dsimp only; omega
  ·intro hc53
   try simp only [dn] at hc53
   obtain rfl : j = ps.length := by omega
   rw [List.take_length] at *
   refine vc_exit (vq_then_exit (vq_then_exit (vq_block_exit (vq_then (vk1 0 (vc_region ?_))))))
   iterate 2 refine ym ?_
   refine ynk ?_
   refine vy (y_fa0 rfl underlying80 rfl rfl sizeOf78 rfl) ?_
   refine yl st 0 isAgg78 ?_
   refine vc_e (e_bs1 (l := [_]) st rfl rfl rfl rfl underlying78 sizeOf5 rfl rfl rfl zeroValue5 ?_)
   intro b71 w hb71 st
   refine vc_e (e_appF (bytes := 1) (l := [.int .u8 10]) (len' := (l ++ mar d ++ ps.flatten ++ [10]).length) (ys := bytesL (l ++ mar d ++ ps.flatten ++ [10])) st 2 0 rfl rfl rfl rfl rfl rfl underlying78 Tryz.info5 rfl rfl rfl rfl rfl rfl rfl (by unfold maxLen; simp only [List.length_append]; omega) (by simp only [List.length_append]; omega) (by simp only [List.length_append, List.length_cons, List.length_nil, Nat.zero_add]) (by simp [bytesL]) ?_)
   intro oaQ capQ w st; dsimp only [setNth] at st
   refine ynk ?_
   refine vy (y_fa0 rfl underlying80 rfl rfl sizeOf78 rfl) ?_
   refine vc_e (est st 1 sizeOf78 ?_)
   intro w st; dsimp only [setNth, wr] at st
   refine vc_end ?_
   refine vq_ret0 (.inr rfl) results40 ?_
   refine ⟨_, rfl, ?_⟩
   exact ⟨rfl, st.wrClose (l := l ++ mar d ++ ps.flatten ++ [10]) (i := 1) (j := 2) rfl rfl rfl (by have h := hws.put (G := mar d ++ ps.flatten ++ [10]) (by simp only [List.length_append, List.length_cons, List.length_nil]; omega); simpa only [List.append_assoc] using h) h1 h2 hbw hn0⟩
end
end Go.Proofs.YtnmhlpnapgojjaaGreatDoor

