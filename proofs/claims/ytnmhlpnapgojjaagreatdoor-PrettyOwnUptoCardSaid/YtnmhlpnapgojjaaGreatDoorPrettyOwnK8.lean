/- A part of the proof: contracts of functions and plain laws; each theorem says its own conditions. -/
import Derived.Test.YtnmhlpnapgojjaaGreatDoorPrettyOwnK1
import Derived.Test.YtnmhlpnapgojjaaGreatDoorPrettyOwnPM
import Derived.Test.YtnmhlpnapgojjaaGreatDoorPrettyOwnK3
set_option linter.unusedVariables false
set_option linter.unusedSimpArgs false
namespace Go.Proofs.YtnmhlpnapgojjaaGreatDoor
open Go.RowKit Sx LexS _root_.Go.Proofs.Tryz
section
variable {n0 : Nat}

theorem first_any (es : List Ex) (x : Ex) (hx : es[0]? = some x) (d : Nat) (hR : rightE x d = true) (hok : OkE x) (oa : Option Addr) (cap : Nat) (w : World) (hr : ExRow w (· < n0) oa es) (hn0 : n0 ≤ w.heap.size) (h0 : 0 < n0) (hsg : Sig w) (hl : (txtE x).length ≤ 1099511627776) :
    Ret Tryz.prog 156 [.slice oa es.length cap] w fun v w' => ∃ r, v = str r ∧ TxR [] (txtE x) r ∧ Chg [] w w' := by
 refine ret_of [_] func156 rfl ntmps156 rfl ?_
 have st := St.init w []
 obtain ⟨w0, rfl⟩ : ∃ w0, w0 = w := ⟨_, rfl⟩
 have hlen : 0 < es.length := (List.getElem?_eq_some_iff.1 hx).1
 obtain ⟨gb, go, rfl, hgS, hgl, hg⟩ := ExRow.at hr hlen
 obtain ⟨o0, c0, hV0, hr0, hc0⟩ := hg 0 x hx
 refine vc_seq (vc_region ?_)
 refine ya ?_
 refine vc_end (vq_then (vk1 0 (vc_seq (vc_region ?_))))
 refine ym ?_
 refine vy (y_ia (k := 0) rfl rfl underlying40 sizeOf42 rfl (by omega)) ?_
 refine vy (y_ldca (exL x o0 c0) rfl isAgg42 sizeOf42 rfl (fun i v hi => st.chg.cell (hc0 i v hi) (by simp))) ?_
 refine vc_e (e_call [_, _] rfl rfl call47 rfl (text_any _ x rfl d hR hok (.slice none 0 0) [] _ _ (hV0.kept (Same.of_nil st.chg)) (World.ownsRow_nil _ 0 5 1) (fun k hk => by simp [Value.ownBlock] at hk) (Nat.le_trans hn0 st.chg.size) h0 (hsg.kept st.chg) (by simpa using hl)) ?_)
 rintro r w ⟨l2, hp, hT⟩
 obtain ⟨o2, c2, hv2⟩ := slice_form hp.1
 subst hv2
 replace st := st.call0 (by simpa [Value.ownBlock] using hp.2.1)
 refine vy (y_b2s rfl (p := l2) (own_rdp hp.1) rfl underlying78 underlying5 underlying9) ?_
 refine ya ?_
 refine vc_end (vq_then (vk1 2 (vc_ret ?_)))
 refine vq_ret1 st (.inl rfl) results156 (.tmp rfl) ?_
 refine ⟨_, rfl, ?_⟩
 exact ⟨l2, rfl, hT, st.chg⟩

end
end Go.Proofs.YtnmhlpnapgojjaaGreatDoor


namespace Go.Proofs.YtnmhlpnapgojjaaGreatDoor
open Go.RowKit Sx LexS _root_.Go.Proofs.Tryz
theorem flat_succ {ps : List (List UInt8)} {j : Nat} {x : List UInt8} (h : ps[j]? = some x) : (ps.take (j + 1)).flatten = (ps.take j).flatten ++ x := by
  obtain ⟨hj, e⟩ := List.getElem?_eq_some_iff.1 h
  rw [List.take_succ_eq_append_getElem hj, e]; simp
theorem flat_le (ps : List (List UInt8)) (j : Nat) : (ps.take j).flatten.length ≤ ps.flatten.length := by
  conv => rhs; rw [← List.take_append_drop j ps, List.flatten_append, List.length_append]
  omega
theorem mar_len (d : Nat) : (mar d).length = 2 * d := by simp [mar]
section
variable {n0 : Nat}

set_option maxHeartbeats 2000000 in
theorem line_any (hRep : ∀ (d : Nat) (w : World), d ≤ 1000 → Ret Tryz.prog 95 [str [32, 32], .int .i64 (d : Int)] w fun v w' => v = str (mar d) ∧ Chg [] w w') (bw : Nat) (v : Value) (F : List UInt8) (d : Nat) (hd : d ≤ 1000) (ps : List (List UInt8)) (hpl : ps.length ≤ 100) (hsum : ps.flatten.length ≤ 70368744177664) (pb pc : Nat) (w : World)
    (hW : Wr 5 n0 80 bw v F w) (hn0 : n0 ≤ w.heap.size) (hp : ∀ (j : Nat) x, ps[j]? = some x → w.cell? ⟨pb, j, none⟩ = some (str x)) (hpn : pb ∉ bw :: v.ownBlock.toList) :
    Ret Tryz.prog 40 [.pointer (some ⟨bw, 0, none⟩), .int .i64 (d : Int), .slice (some ⟨pb, 0, none⟩) ps.length pc] w fun r w' => r = .tuple #[] ∧ WrP 5 n0 80 bw v (F ++ (mar d ++ ps.flatten ++ [10])) w w' := by
  have hbw := hW.lt bw (.head _)
  obtain ⟨l, many, oa, cap, rfl, hws, h1, h2, st0⟩ := St.wrOpen hW
  have hle := hws.le
  have hmar := mar_len d
  refine ret_of [_, _, _] func40 rfl ntmps40 rfl ?_
  have st := St.init w []
  clear st
  obtain ⟨w0, rfl⟩ : ∃ w0, w0 = w := ⟨_, rfl⟩
  have st := st0
  clear st0
  refine vc_seq (vc_seq (vc_region ?_))
  refine ym ?_
  refine ynk ?_
  refine yfz 1 underlying80 sizeOf4 ?_
  refine yl st 0 isAgg4 ?_
  refine vc_end (vq_then (vk4 0 1 2 14 ?_))
  refine vc_ifs rfl ?_ ?_
  · intro hc14
    try simp only [dn] at hc14
    refine vc_ret (vq_then_ret ?_)
    refine vq_ret0 (.inl rfl) results40 ?_
    refine ⟨_, rfl, ?_⟩
    have hm : many = true := by assumption
    subst hm
    exact ⟨rfl, st.wrClose (i := 0) (j := 1) rfl rfl rfl (hws.over _) h1 h2 hbw hn0⟩
  · intro hc14
    try simp only [dn] at hc14
    obtain rfl : many = false := by assumption
    refine vc_code_skip (vq_then (vk3 0 1 2 (vc_seq (vc_region ?_))))
    refine ym ?_
    refine vy (y_mulk rfl rfl (by rw [wrap_i64 _ (by omega)]; omega : _ = ((2 * d : Nat) : Int))) ?_
    refine vy (y_add rfl rfl (by omega : _ = ((2 * d + 1 : Nat) : Int)) (by omega) (by omega)) ?_
    refine ya ?_
    refine vc_end (vq_then (vk4 0 1 2 6 (vc_seq (vc_seq (vc_region ?_)))))
    refine ym ?_
    refine vy (y_lensl rfl underlying50) ?_
    refine ym ?_
    refine vc_end (vq_then (vk7 0 1 2 6 18 19 20 (vc_block ?_)))
    refine vc_loop (w0 := w0) (M := (bw :: (Value.slice oa l.length cap).ownBlock.toList)) (fun (j : Nat) => [(0, .pointer (some ⟨bw, 0, none⟩)), (1, .int .i64 (d : Int)), (2, .slice (some ⟨pb, 0, none⟩) ps.length pc), (6, .int .i64 ((2 * d + 1 + (ps.take j).flatten.length : Nat) : Int)), (18, .slice (some ⟨pb, 0, none⟩) ps.length pc), (19, .int .i64 (ps.length : Int)), (20, .int .i64 (j : Int))]) (fun _ => [.blk bw (.cells [.slice oa l.length cap, .bool false].toArray 80 (0, 0)), frn (bw :: (Value.slice oa l.length cap).ownBlock.toList) w0.heap.size 5 (.slice oa l.length cap) l.length (bytesL l)]) (fun j _ => j ≤ ps.length) (fun j => ps.length - j) 0 ⟨rfl, rfl, rfl, by simp [find, Nat.beq], rfl, rfl, rfl, trivial⟩ st (by omega) ?_
    clear st
    rintro j w hj st
    refine vc_seq (vc_region ?_)
    refine vy (y_lss rfl rfl) ?_
    refine vc_end (vq_then (vk8 0 1 2 6 18 19 20 21 (vc_seq ?_)))
    refine vc_ifs rfl ?_ ?_
    · intro hc21
      try simp only [dn] at hc21
      obtain ⟨x, hx⟩ : ∃ x, ps[j]? = some x := ⟨_, List.getElem?_eq_getElem (by omega)⟩
      have hcx := hp j x hx
      have hfs := flat_succ hx
      have hfl := flat_le ps (j + 1)
      have hfe := congrArg List.length hfs
      rw [List.length_append] at hfe
      refine vc_code_skip (vq_then (vk7 0 1 2 6 18 19 20 (vc_seq (vc_block (vc_seq (vc_region ?_))))))
      refine vy (y_ia0 (k := j) rfl rfl underlying50 sizeOf9 rfl (by omega)) ?_
      refine vy ((by exact y_ldc rfl isAgg9 (st.chg.cell (by rw [Nat.mul_one]; exact hcx) hpn))) ?_
      refine ya ?_
      refine vc_end (vq_then (vk8 0 1 2 6 8 18 19 20 (vc_region ?_)))
      iterate 2 refine ym ?_
      refine vy (y_lens rfl underlying9) ?_
      refine vy (y_add rfl rfl (by omega : _ = ((2 * d + 1 + (ps.take (j + 1)).flatten.length : Nat) : Int)) (by omega) (by omega)) ?_
      refine ya ?_
      refine vc_end (vq_block (vq_then (vk7 0 1 2 6 18 19 20 (vc_region ?_))))
      refine vy (y_add rfl rfl (by omega : _ = ((j + 1 : Nat) : Int)) (by omega) (by omega)) ?_
      refine ym ?_
      refine vc_end ?_
      refine vq_again (j + 1)  ⟨rfl, rfl, rfl, rfl, rfl, rfl, rfl, trivial⟩ st ?_ ?_
      · omega
      · omega
    · intro hc21
      try simp only [dn] at hc21
      obtain rfl : j = ps.length := by omega
      rw [List.take_length] at *
      refine vc_exit (vq_then_exit (vq_then_exit (vq_block_exit (vq_then (vk4 0 1 2 6 (vc_seq (vc_seq (vc_region ?_))))))))
      refine ym ?_
      refine ynk ?_
      refine vy (y_fa0 rfl underlying80 rfl rfl sizeOf78 rfl) ?_
      refine yl st 0 isAgg78 ?_
      refine vy (y_lensl rfl underlying78) ?_
      refine ym ?_
      refine vy (y_add rfl rfl (by omega : _ = ((l.length + (2 * d + 1 + ps.flatten.length) : Nat) : Int)) (by omega) (by omega)) ?_
      refine vy (y_gtr rfl rfl) ?_
      refine vc_end (vq_then (vk4 0 1 2 36 ?_))
      refine vc_ifs rfl ?_ ?_
      · intro hc36
        try simp only [dn] at hc36
        refine vc_seq (vc_region ?_)
        refine ym ?_
        refine ynk ?_
        refine yfz 1 underlying80 sizeOf4 ?_
        refine vc_e (e_st st 0 rfl rfl rfl rfl sizeOf4 rfl rfl (by (left; simp)) ?_)
        intro w st; dsimp only [setNth, wr] at st
        refine vc_end (vq_then (vc_keep [] trivial (vc_ret (vq_then_ret ?_))))
        refine vq_ret0 (.inl rfl) results40 ?_
        refine ⟨_, rfl, ?_⟩
        exact ⟨rfl, st.wrClose (i := 0) (j := 1) rfl rfl rfl (hws.no' rfl (by simp only [List.length_append, List.length_cons, List.length_nil]; omega)) h1 h2 hbw hn0⟩
      · intro hc36
        try simp only [dn] at hc36
        refine vc_code_skip (vq_then (vk3 0 1 2 (vc_seq ?_)))
        refine vd_draw Tryz.mixed (.take 0 (.take 1 (.take 2 (.take 3 (.take 5 (.two 4 6 (.one 6 (.one 7 (.take 8 (.take 9 (.one 10 .done))))) (.one 4 (.one 7 (.take 8 (.take 9 (.one 10 .done))))))))))) (fun w => St _ _ [] w) st.dr (by kernel_rfl) (by repeat (first | exact okQ_body | refine okQ_then ?_ | refine okQ_block ?_)) rfl (by kernel_rfl) ?_
        intro w cd; replace st := st.call0 cd; clear cd
        have hS : St _ _ [] w := st.dr
        iterate 2 refine dm hS ?_
        refine dnk hS ?_
        refine df0 hS underlying80 sizeOf78 ?_
        refine dm hS ?_
        refine vd_two rfl rfl ?_ ?_
        ·
          refine (e_run rfl rfl (y_ld st 0 rfl isAgg78 rfl rfl) ?_)
          refine vd_next st.dr ?_; intro hS
          refine vd_do rfl (e_call [_, _] rfl rfl call95 rfl (hRep d _ hd) ?_)
          rintro _ w ⟨rfl, cw⟩
          replace st := st.call0 cw
          refine vd_next st.dr ?_; intro hS
          refine vd_do rfl (e_appsF (len' := (l ++ mar d).length) (ys := bytesL (l ++ mar d)) st 1 rfl rfl rfl rfl rfl underlying78 underlying9 Tryz.info5 rfl rfl rfl (List.length_append).symm (by simp [bytesL]) (by simp only [List.length_append]; omega) ?_)
          intro oaQ capQ w st; dsimp only [setNth] at st
          refine vd_next st.dr ?_; intro hS
          refine dnk hS ?_
          refine df0 hS underlying80 sizeOf78 ?_
          refine vd_do rfl (e_st st 0 rfl rfl rfl rfl sizeOf78 rfl rfl (by (left; simp)) ?_)
          intro w st; dsimp only [setNth, wr] at st
          refine vd_next st.dr ?_; intro hS
          refine vd_end (vq_then (vk2 0 2 (vc_seq (vc_seq (vc_region ?_)))))
          refine ym ?_
          refine vy (y_lensl rfl underlying50) ?_
          refine ym ?_
          refine vc_end (vq_then (vk4 0 50 51 52 (vc_block ?_)))
          refine vc_loop (w0 := w0) (M := (bw :: (Value.slice oa l.length cap).ownBlock.toList)) (fun (y : Nat × Option Addr × Nat) => [(0, .pointer (some ⟨bw, 0, none⟩)), (50, .slice (some ⟨pb, 0, none⟩) ps.length pc), (51, .int .i64 (ps.length : Int)), (52, .int .i64 (y.1 : Int))]) (fun y => [.blk bw (.cells [.slice y.2.1 (l ++ mar d ++ (ps.take y.1).flatten).length y.2.2, .bool false].toArray 80 (0, 0)), frn (bw :: (Value.slice oa l.length cap).ownBlock.toList) w0.heap.size 5 (.slice y.2.1 (l ++ mar d ++ (ps.take y.1).flatten).length y.2.2) (l ++ mar d ++ (ps.take y.1).flatten).length (bytesL (l ++ mar d ++ (ps.take y.1).flatten))]) (fun y _ => y.1 ≤ ps.length) (fun y => ps.length - y.1) (0, oaQ, capQ) ⟨rfl, rfl, rfl, rfl, trivial⟩ (by simpa only [List.take_zero, List.flatten_nil, List.append_nil] using st) (by simp) ?_
          clear st
          rintro ⟨j, oj, cj⟩ w hj st
          dsimp only at *
          refine vc_seq (vc_region ?_)
          refine vy (y_lss rfl rfl) ?_
          refine vc_end (vq_then (vk5 0 50 51 52 53 (vc_seq ?_)))
          refine vc_ifs rfl ?_ ?_
          · intro hc53
            try simp only [dn] at hc53
            obtain ⟨x, hx⟩ : ∃ x, ps[j]? = some x := ⟨_, List.getElem?_eq_getElem (by omega)⟩
            have hcx := hp j x hx
            have hfs := flat_succ hx
            have hfl := flat_le ps (j + 1)
            have hfe := congrArg List.length hfs
            rw [List.length_append] at hfe
            refine vc_code_skip (vq_then (vk4 0 50 51 52 (vc_seq (vc_block (vc_seq (vc_region ?_))))))
            refine vy (y_ia0 (k := j) rfl rfl underlying50 sizeOf9 rfl (by omega)) ?_
            refine vy ((by exact y_ldc rfl isAgg9 (st.chg.cell (by rw [Nat.mul_one]; exact hcx) hpn))) ?_
            refine ya ?_
            refine vc_end (vq_then (vk5 0 10 50 51 52 (vc_region ?_)))
            iterate 2 refine ym ?_
            refine ynk ?_
            refine vy (y_fa0 rfl underlying80 rfl rfl sizeOf78 rfl) ?_
            refine yl st 0 isAgg78 ?_
            refine ym ?_
            refine vc_e (e_appsF (len' := (l ++ mar d ++ (ps.take j).flatten ++ x).length) (ys := bytesL (l ++ mar d ++ (ps.take j).flatten ++ x)) st 1 rfl rfl rfl rfl rfl underlying78 underlying9 Tryz.info5 rfl rfl rfl (List.length_append).symm (by simp [bytesL]) (by simp only [List.length_append]; omega) ?_)
            intro oaQ capQ w st; dsimp only [setNth] at st
            refine ynk ?_
            refine vy (y_fa0 rfl underlying80 rfl rfl sizeOf78 rfl) ?_
            refine vc_e (e_st st 0 rfl rfl rfl rfl sizeOf78 rfl rfl (by (left; simp)) ?_)
            intro w st; dsimp only [setNth, wr] at st
            refine vc_end (vq_block (vq_then (vk4 0 50 51 52 (vc_region ?_))))
            refine vy (y_add rfl rfl (by omega : _ = ((j + 1 : Nat) : Int)) (by omega) (by omega)) ?_
            refine ym ?_
            refine vc_end ?_
            refine vq_again (j + 1, oaQ, capQ)  ⟨rfl, rfl, rfl, rfl, trivial⟩ (by rw [hfs]; simpa only [List.append_assoc] using st) ?_ ?_
            · dsimp only; omega
            · dsimp only; omega
          · intro hc53
            try simp only [dn] at hc53
            obtain rfl : j = ps.length := by omega
            rw [List.take_length] at *
            refine vc_exit (vq_then_exit (vq_then_exit (vq_block_exit (vq_then (vk1 0 (vc_region ?_))))))
            iterate 2 refine ym ?_
            refine ynk ?_
            refine vy (y_fa0 rfl underlying80 rfl rfl sizeOf78 rfl) ?_
            refine yl st 0 isAgg78 ?_
            refine vc_e (e_bs1 (l := [_]) st rfl rfl rfl rfl underlying78 sizeOf5 rfl rfl rfl zeroValue5 ?_)
            intro b71 w hb71 st
            refine vc_e (e_appF (bytes := 1) (l := [.int .u8 10]) (len' := (l ++ mar d ++ ps.flatten ++ [10]).length) (ys := bytesL (l ++ mar d ++ ps.flatten ++ [10])) st 2 0 rfl rfl rfl rfl rfl rfl underlying78 Tryz.info5 rfl rfl rfl rfl rfl rfl rfl (by unfold maxLen; simp only [List.length_append]; omega) (by simp only [List.length_append]; omega) (by simp only [List.length_append, List.length_cons, List.length_nil, Nat.zero_add]) (by simp [bytesL]) ?_)
            intro oaQ capQ w st; dsimp only [setNth] at st
            refine ynk ?_
            refine vy (y_fa0 rfl underlying80 rfl rfl sizeOf78 rfl) ?_
            refine vc_e (e_st st 1 rfl rfl rfl rfl sizeOf78 rfl rfl (by (left; simp)) ?_)
            intro w st; dsimp only [setNth, wr] at st
            refine vc_end ?_
            refine vq_ret0 (.inr rfl) results40 ?_
            refine ⟨_, rfl, ?_⟩
            exact ⟨rfl, st.wrClose (l := l ++ mar d ++ ps.flatten ++ [10]) (i := 1) (j := 2) rfl rfl rfl (by have h := hws.put (G := mar d ++ ps.flatten ++ [10]) (by simp only [List.length_append, List.length_cons, List.length_nil]; omega); simpa only [List.append_assoc] using h) h1 h2 hbw hn0⟩
        ·
          refine (e_call [_, _] rfl rfl call95 rfl (hRep d _ hd) ?_)
          rintro _ w ⟨rfl, cw⟩
          replace st := st.call0 cw
          refine vd_next st.dr ?_; intro hS
          refine vd_do rfl (e_run rfl rfl (y_ld st 0 rfl isAgg78 rfl rfl) ?_)
          refine vd_next st.dr ?_; intro hS
          refine vd_do rfl (e_appsF (len' := (l ++ mar d).length) (ys := bytesL (l ++ mar d)) st 1 rfl rfl rfl rfl rfl underlying78 underlying9 Tryz.info5 rfl rfl rfl (List.length_append).symm (by simp [bytesL]) (by simp only [List.length_append]; omega) ?_)
          intro oaQ capQ w st; dsimp only [setNth] at st
          refine vd_next st.dr ?_; intro hS
          refine dnk hS ?_
          refine df0 hS underlying80 sizeOf78 ?_
          refine vd_do rfl (e_st st 0 rfl rfl rfl rfl sizeOf78 rfl rfl (by (left; simp)) ?_)
          intro w st; dsimp only [setNth, wr] at st
          refine vd_next st.dr ?_; intro hS
          refine vd_end (vq_then (vk2 0 2 (vc_seq (vc_seq (vc_region ?_)))))
          refine ym ?_
          refine vy (y_lensl rfl underlying50) ?_
          refine ym ?_
          refine vc_end (vq_then (vk4 0 50 51 52 (vc_block ?_)))
          refine vc_loop (w0 := w0) (M := (bw :: (Value.slice oa l.length cap).ownBlock.toList)) (fun (y : Nat × Option Addr × Nat) => [(0, .pointer (some ⟨bw, 0, none⟩)), (50, .slice (some ⟨pb, 0, none⟩) ps.length pc), (51, .int .i64 (ps.length : Int)), (52, .int .i64 (y.1 : Int))]) (fun y => [.blk bw (.cells [.slice y.2.1 (l ++ mar d ++ (ps.take y.1).flatten).length y.2.2, .bool false].toArray 80 (0, 0)), frn (bw :: (Value.slice oa l.length cap).ownBlock.toList) w0.heap.size 5 (.slice y.2.1 (l ++ mar d ++ (ps.take y.1).flatten).length y.2.2) (l ++ mar d ++ (ps.take y.1).flatten).length (bytesL (l ++ mar d ++ (ps.take y.1).flatten))]) (fun y _ => y.1 ≤ ps.length) (fun y => ps.length - y.1) (0, oaQ, capQ) ⟨rfl, rfl, rfl, rfl, trivial⟩ (by simpa only [List.take_zero, List.flatten_nil, List.append_nil] using st) (by simp) ?_
          clear st
          rintro ⟨j, oj, cj⟩ w hj st
          dsimp only at *
          refine vc_seq (vc_region ?_)
          refine vy (y_lss rfl rfl) ?_
          refine vc_end (vq_then (vk5 0 50 51 52 53 (vc_seq ?_)))
          refine vc_ifs rfl ?_ ?_
          · intro hc53
            try simp only [dn] at hc53
            obtain ⟨x, hx⟩ : ∃ x, ps[j]? = some x := ⟨_, List.getElem?_eq_getElem (by omega)⟩
            have hcx := hp j x hx
            have hfs := flat_succ hx
            have hfl := flat_le ps (j + 1)
            have hfe := congrArg List.length hfs
            rw [List.length_append] at hfe
            refine vc_code_skip (vq_then (vk4 0 50 51 52 (vc_seq (vc_block (vc_seq (vc_region ?_))))))
            refine vy (y_ia0 (k := j) rfl rfl underlying50 sizeOf9 rfl (by omega)) ?_
            refine vy ((by exact y_ldc rfl isAgg9 (st.chg.cell (by rw [Nat.mul_one]; exact hcx) hpn))) ?_
            refine ya ?_
            refine vc_end (vq_then (vk5 0 10 50 51 52 (vc_region ?_)))
            iterate 2 refine ym ?_
            refine ynk ?_
            refine vy (y_fa0 rfl underlying80 rfl rfl sizeOf78 rfl) ?_
            refine yl st 0 isAgg78 ?_
            refine ym ?_
            refine vc_e (e_appsF (len' := (l ++ mar d ++ (ps.take j).flatten ++ x).length) (ys := bytesL (l ++ mar d ++ (ps.take j).flatten ++ x)) st 1 rfl rfl rfl rfl rfl underlying78 underlying9 Tryz.info5 rfl rfl rfl (List.length_append).symm (by simp [bytesL]) (by simp only [List.length_append]; omega) ?_)
            intro oaQ capQ w st; dsimp only [setNth] at st
            refine ynk ?_
            refine vy (y_fa0 rfl underlying80 rfl rfl sizeOf78 rfl) ?_
            refine vc_e (e_st st 0 rfl rfl rfl rfl sizeOf78 rfl rfl (by (left; simp)) ?_)
            intro w st; dsimp only [setNth, wr] at st
            refine vc_end (vq_block (vq_then (vk4 0 50 51 52 (vc_region ?_))))
            refine vy (y_add rfl rfl (by omega : _ = ((j + 1 : Nat) : Int)) (by omega) (by omega)) ?_
            refine ym ?_
            refine vc_end ?_
            refine vq_again (j + 1, oaQ, capQ)  ⟨rfl, rfl, rfl, rfl, trivial⟩ (by rw [hfs]; simpa only [List.append_assoc] using st) ?_ ?_
            · dsimp only; omega
            · dsimp only; omega
          · intro hc53
            try simp only [dn] at hc53
            obtain rfl : j = ps.length := by omega
            rw [List.take_length] at *
            refine vc_exit (vq_then_exit (vq_then_exit (vq_block_exit (vq_then (vk1 0 (vc_region ?_))))))
            iterate 2 refine ym ?_
            refine ynk ?_
            refine vy (y_fa0 rfl underlying80 rfl rfl sizeOf78 rfl) ?_
            refine yl st 0 isAgg78 ?_
            refine vc_e (e_bs1 (l := [_]) st rfl rfl rfl rfl underlying78 sizeOf5 rfl rfl rfl zeroValue5 ?_)
            intro b71 w hb71 st
            refine vc_e (e_appF (bytes := 1) (l := [.int .u8 10]) (len' := (l ++ mar d ++ ps.flatten ++ [10]).length) (ys := bytesL (l ++ mar d ++ ps.flatten ++ [10])) st 2 0 rfl rfl rfl rfl rfl rfl underlying78 Tryz.info5 rfl rfl rfl rfl rfl rfl rfl (by unfold maxLen; simp only [List.length_append]; omega) (by simp only [List.length_append]; omega) (by simp only [List.length_append, List.length_cons, List.length_nil, Nat.zero_add]) (by simp [bytesL]) ?_)
            intro oaQ capQ w st; dsimp only [setNth] at st
            refine ynk ?_
            refine vy (y_fa0 rfl underlying80 rfl rfl sizeOf78 rfl) ?_
            refine vc_e (e_st st 1 rfl rfl rfl rfl sizeOf78 rfl rfl (by (left; simp)) ?_)
            intro w st; dsimp only [setNth, wr] at st
            refine vc_end ?_
            refine vq_ret0 (.inr rfl) results40 ?_
            refine ⟨_, rfl, ?_⟩
            exact ⟨rfl, st.wrClose (l := l ++ mar d ++ ps.flatten ++ [10]) (i := 1) (j := 2) rfl rfl rfl (by have h := hws.put (G := mar d ++ ps.flatten ++ [10]) (by simp only [List.length_append, List.length_cons, List.length_nil]; omega); simpa only [List.append_assoc] using h) h1 h2 hbw hn0⟩

end
end Go.Proofs.YtnmhlpnapgojjaaGreatDoor

