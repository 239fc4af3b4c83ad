/- A part of the proof: contracts of functions and plain laws; each theorem says its own conditions. -/
import Derived.Test.YtnmhlpnapgojjaaDoorK3
import Derived.Test.YtnmhlpnapgojjaaDoorK15
import Derived.Test.YtnmhlpnapgojjaaDoorK13
import Derived.Test.YtnmhlpnapgojjaaDoorK14
namespace Go.Proofs.YtnmhlpnapgojjaaDoor
open Go.RowKit Sx LexS _root_.Go.Proofs.Tryd
set_option linter.unusedVariables false
set_option linter.unusedSimpArgs false
abbrev ExQ := ExS 63
abbrev ExRQ := ExR 63
abbrev SmQ := SmS 63 70
abbrev SmRQ := SmR 63 70
abbrev DcRQ := DcR 67
abbrev ThQ := ThS 63 70 67
abbrev ThRQ := ThR 63 70 67 42
abbrev PgQ := PgS 63 70 67 42
theorem Tryd.info67 : Tryd.prog.info? 67 = some Tryd.t67 := by kernel_rfl
theorem Tryd.info63 : Tryd.prog.info? 63 = some Tryd.t63 := by kernel_rfl
theorem Tryd.info70 : Tryd.prog.info? 70 = some Tryd.t70 := by kernel_rfl
theorem Tryd.info42 : Tryd.prog.info? 42 = some Tryd.t42 := by kernel_rfl
theorem take_snoc {α : Type} {l : List α} {j : Nat} {x : α} (h : l[j]? = some x) : l.take (j + 1) = l.take j ++ [x] := by
 obtain ⟨hj, e⟩ := List.getElem?_eq_some_iff.1 h
 rw [List.take_succ_eq_append_getElem hj, e]
section
variable {n0 : Nat}

theorem rcopyD_any (ds : List Dc) (hn : ds.length ≤ 1099511627776) (oa : Option Addr) (cap : Nat) (w : World) (hD : DcRow w (· < n0) oa ds) :
    Ret Tryd.prog 16 [.slice oa ds.length cap] w fun v w' => ∃ oq cq Sq, v = .slice oq ds.length cq ∧ DcRQ w' oq cq ds Sq ∧ Nw w.heap.size Sq ∧ Chg [] w w' := by
 refine ret_of [_] func16 rfl ntmps16 rfl ?_
 have st := St.init w []
 obtain ⟨w0, rfl⟩ : ∃ w0, w0 = w := ⟨_, rfl⟩
 replace st := st.ownNil 67 3
 refine vc_seq (vc_region ?_)
 refine vc_y rfl rfl (y_as rfl) ?_
 refine vc_end (vq_then (vc_keep [(0, _)] ⟨rfl, trivial⟩ (vc_seq (vc_region ?_))))
 refine vc_y rfl rfl (y_as rfl) ?_
 refine vc_end (vq_then (vc_keep [(0, _), (3, _)] ⟨rfl, rfl, trivial⟩ (vc_seq (vc_region ?_))))
 iterate 2 refine vc_y rfl rfl (y_mv rfl) ?_
 refine vc_e (e_appr (bytes := 32) (len' := ds.length) (ys := ds.flatMap dcL) st 0 rfl rfl rfl rfl rfl (DcRow.rd (S := (· < n0)) (RowC.kept hD (Same.of_nil st.chg))) underlying22 Tryd.info67 rfl rfl rfl rfl rfl (dcs_len ds) (dcs_one ds) (by unfold maxLen; omega) (by omega) (by omega) (by simp) ?_)
 intro oaQ capQ w st; dsimp only [setNth] at st
 refine vc_y rfl rfl (y_as rfl) ?_
 refine vc_end (vq_then (vc_keep [(2, _)] ⟨rfl, trivial⟩ (vc_ret ?_)))
 refine vq_ret1 st (.inl rfl) results16 (.tmp rfl) ?_
 refine ⟨_, rfl, ?_⟩
 exact ⟨oaQ, capQ, _, rfl, ⟨(st.ownNw (i := 0) rfl).1, rfl⟩, (st.ownNw (i := 0) rfl).2, st.chg⟩

set_option maxHeartbeats 1000000 in
theorem rcopyE_any : ∀ (n : Nat) (es : List Ex), szo es = n → OkEs es → ∀ (oa : Option Addr) (cap : Nat) (w : World), ExRow w (· < n0) oa es → n0 ≤ w.heap.size →
    Ret Tryd.prog 45 [.slice oa es.length cap] w fun v w' => ∃ oq cq Sq, v = .slice oq es.length cq ∧ ExRQ w' oq cq es Sq ∧ Nw w.heap.size Sq ∧ Chg [] w w' := by
 intro n
 refine Nat.strongRecOn n fun n ih => ?_
 intro es hn hok oa cap w hr hn0
 subst hn
 have hle := hok.1
 refine ret_of [_] func45 rfl ntmps45 rfl ?_
 have st := St.init w []
 obtain ⟨w0, rfl⟩ : ∃ w0, w0 = w := ⟨_, rfl⟩
 replace st := St.pushR (r := .tree [] (fun w => ExSs 63 w [] [] [])) st (Chg.refl _ _) (holds_of (by simp [ExSs]) (by simp) (fun a b h hk => h.kept hk)) (by simp [Res.at?])
 replace st := st.ownNil 63 6
 refine vc_seq (vc_region ?_)
 refine vc_y rfl rfl (y_as rfl) ?_
 refine vc_end (vq_then (vc_keep [(0, _)] ⟨rfl, trivial⟩ (vc_seq (vc_region ?_))))
 refine vc_y rfl rfl (y_as rfl) ?_
 refine vc_end (vq_then (vc_keep [(0, _), (3, _)] ⟨rfl, rfl, trivial⟩ (vc_seq (vc_seq (vc_region ?_)))))
 refine vc_y rfl rfl (y_mv rfl) ?_
 refine vc_y rfl rfl (y_lensl rfl underlying61) ?_
 refine vc_y rfl rfl (y_mv rfl) ?_
 refine vc_end (vq_then (vc_keep [(3, _), (6, _), (7, _), (8, _)] ⟨rfl, rfl, rfl, rfl, trivial⟩ (vc_block ?_)))
 refine vc_loop (w0 := w0) (M := []) (fun (y : Nat × Option Addr × Nat × List Value × List Nat) => [(3, .slice y.2.1 y.1 y.2.2.1), (6, .slice oa es.length cap), (7, .int .i64 (es.length : Int)), (8, .int .i64 (y.1 : Int))]) (fun y => [.own (.slice y.2.1 y.1 y.2.2.1) 63 6 y.1 y.2.2.2.1, .tree y.2.2.2.2 (fun w => ExSs 63 w (es.take y.1) y.2.2.2.1 y.2.2.2.2)]) (fun y _ => y.1 ≤ es.length ∧ Nw w0.heap.size y.2.2.2.2) (fun y => es.length - y.1) (0, none, 0, [], []) ⟨rfl, rfl, rfl, rfl, trivial⟩ (by simpa using st) ⟨by simp, Nw.nil⟩ ?_
 clear st
 rintro ⟨j, oj, cj, xs, S⟩ w ⟨hj, hS⟩ st
 dsimp only at *
 refine vc_seq (vc_region ?_)
 refine vc_y rfl rfl (y_lss rfl rfl) ?_
 refine vc_end (vq_then (vc_keep [(3, _), (6, _), (7, _), (8, _), (9, _)] ⟨rfl, rfl, rfl, rfl, rfl, trivial⟩ (vc_seq ?_)))
 refine vc_ifs rfl ?_ ?_
 ·
  intro hc9
  try simp only [dn] at hc9
  have stK := st
  obtain ⟨e, hej⟩ : ∃ e, es[j]? = some e := ⟨_, List.getElem?_eq_getElem (by omega)⟩
  obtain ⟨gb, go, rfl, hgS, hgl, hg⟩ := ExRow.at hr (by omega)
  obtain ⟨o0, c0, hV0, hr0, hc0⟩ := hg j e hej
  have hke := hok.2 j e hej
  have hz := mem_size hej
  have hz2 : szo e.kids < szo es := by have : szo e.kids < szo e := by cases e; exact ex_size
                                       omega
  have st := stK
  clear stK
  refine vc_code_skip (vq_then (vc_keep [(3, _), (6, _), (7, _), (8, _)] ⟨rfl, rfl, rfl, rfl, trivial⟩ (vc_seq (vc_block (vc_seq (vc_region ?_))))))
  refine vc_y rfl rfl ((by exact y_ia (k := j) rfl rfl underlying61 sizeOf63 rfl (by omega))) ?_
  refine vc_y rfl rfl ((by exact y_ldca (exL e o0 c0) rfl isAgg63 sizeOf63 rfl (fun i v hi => st.chg.cell (hc0 i v hi) (by simp)))) ?_
  refine vc_e (e_al (l := [_, _, _, _, _, _]) st rfl rfl zeroValue63 rfl ?_)
  intro b5 w hb5 st
  refine vc_e (e_sts (vs := [_, _, _, _, _, _]) st 0 rfl rfl rfl rfl rfl sizeOf63 rfl rfl (by first | (right; assumption) | (left; simp)) ?_)
  intro w st; dsimp only [setNth, wr] at st
  refine vc_end (vq_then (vc_keep [(3, _), (5, _), (6, _), (7, _), (8, _)] ⟨rfl, rfl, rfl, rfl, rfl, trivial⟩ (vc_seq (vc_region ?_))))
  refine vc_y rfl rfl ((by exact y_faz (k := 4) rfl underlying63 rfl rfl sizeOf61 rfl)) ?_
  refine vc_y rfl rfl ((by exact y_ld st 0 rfl isAgg61 rfl rfl)) ?_
  refine vc_e (e_call [_] rfl rfl call45 rfl (ih _ hz2 e.kids rfl hke.kids _ _ _ (hr0.kept (Same.of_nil st.chg)) (Nat.le_trans hn0 st.chg.size)) ?_)
  rintro _ w ⟨oq, cq, Sq, rfl, hQ, hN, cw⟩
  have hN9 := hN.le st.chg.size
  replace st := St.pushR (r := .tree Sq (fun w => ExRQ w oq cq e.kids Sq)) st cw (holds_of hQ hQ.lt (fun a b h hk => h.kept hk)) hN.2
  refine vc_y rfl rfl ((by exact y_faz (k := 4) rfl underlying63 rfl rfl sizeOf61 rfl)) ?_
  refine vc_e (e_st st 1 rfl rfl rfl rfl sizeOf61 rfl rfl (by first | (right; assumption) | (left; simp)) ?_)
  intro w st; dsimp only [setNth, wr] at st
  refine vc_end (vq_then (vc_keep [(3, _), (5, _), (6, _), (7, _), (8, _)] ⟨rfl, rfl, rfl, rfl, rfl, trivial⟩ (vc_region ?_)))
  refine vc_y rfl rfl (y_mv rfl) ?_
  refine vc_y rfl rfl ((by exact y_lda (vs := [_, _, _, _, _, _]) st 1 rfl isAgg63 sizeOf63 rfl rfl)) ?_
  refine vc_e (e_bs1 (l := [_, _, _, _, _, _]) st rfl rfl rfl rfl underlying61 sizeOf63 rfl rfl rfl zeroValue63 ?_)
  intro b18 w hb18 st
  refine vc_e (e_app (bytes := 64) st 3 0 rfl rfl rfl rfl rfl rfl underlying61 Tryd.info63 rfl rfl rfl rfl rfl (by simp) rfl rfl (by unfold maxLen; omega) (by omega) ?_)
  intro oaQ capQ w st; dsimp only [setNth] at st
  refine vc_y rfl rfl (y_as rfl) ?_
  refine vc_end (vq_block (vq_then (vc_keep [(3, _), (6, _), (7, _), (8, _)] ⟨rfl, rfl, rfl, rfl, trivial⟩ (vc_region ?_))))
  have hne : ∀ b ∈ S, b ∉ Sq := fun b hb => st.ne (i := 4) (j := 1) (by decide) rfl rfl b hb
  have stN := st.pick [4, 1, 3] rfl (by decide)
  have h1 := (stN.res (i := 0) rfl).1
  have h2 := (stN.res (i := 1) rfl).1
  have h3 : ExSs 63 w (es.take (j + 1)) (xs ++ exL e oq cq) (S ++ Sq) := by rw [take_snoc hej]; exact ExSs.snoc h1 (ExS_iff.2 ⟨oq, cq, rfl, h2⟩)
  replace stN := (stN.join (q := .tree (S ++ Sq) fun w => ExSs 63 w (es.take (j + 1)) (xs ++ exL e oq cq) (S ++ Sq)) (fun k hk => List.mem_append.1 hk) (holds_of h3 h3.lt (fun a b h hk => h.kept hk))).pick [1, 0] rfl (by decide)
  refine vc_y rfl rfl (y_add rfl rfl (by omega : _ = ((j + 1 : Nat) : Int)) (by omega) (by omega)) ?_
  refine vc_y rfl rfl (y_mv rfl) ?_
  refine vc_end ?_
  refine vq_again (j + 1, oaQ, capQ, xs ++ exL e oq cq, S ++ Sq)  ⟨rfl, rfl, rfl, rfl, trivial⟩ stN ?_ ?_
  ·
   exact ⟨by dsimp only; omega, hS.app hN9 hne⟩
  ·
   dsimp only; omega
 ·
  intro hc9
  try simp only [dn] at hc9
  refine vc_exit (vq_then_exit (vq_then_exit (vq_block_exit (vq_then (vc_keep [(3, _)] ⟨rfl, trivial⟩ (vc_seq (vc_region ?_)))))))
  refine vc_y rfl rfl (y_mv rfl) ?_
  refine vc_y rfl rfl (y_as rfl) ?_
  refine vc_end (vq_then (vc_keep [(2, _)] ⟨rfl, trivial⟩ (vc_ret ?_)))
  refine vq_ret1 st (.inl rfl) results45 (.tmp rfl) ?_
  refine ⟨_, rfl, ?_⟩
  obtain rfl : j = es.length := by omega
  rw [List.take_length] at st
  obtain ⟨h1, h2⟩ := st.ownNw (i := 0) rfl
  have h3 := (st.res (i := 1) rfl).1
  exact ⟨oj, cj, obk oj ++ S, rfl, ⟨xs, S, h1, rfl, h3⟩, h2.app hS (fun b hb => st.ne (i := 0) (j := 1) (by decide) rfl rfl b (by simpa [Res.at?, obk_own] using hb)), st.chg⟩

set_option maxHeartbeats 1000000 in
theorem rcopyS_any : ∀ (n : Nat) (es : List Sm), szo es = n → OkSs es → ∀ (oa : Option Addr) (cap : Nat) (w : World), SmRow w (· < n0) oa es → n0 ≤ w.heap.size →
    Ret Tryd.prog 17 [.slice oa es.length cap] w fun v w' => ∃ oq cq Sq, v = .slice oq es.length cq ∧ SmRQ w' oq cq es Sq ∧ Nw w.heap.size Sq ∧ Chg [] w w' := by
 intro n
 refine Nat.strongRecOn n fun n ih => ?_
 intro es hn hok oa cap w hr hn0
 subst hn
 have hle := hok.1
 refine ret_of [_] func17 rfl ntmps17 rfl ?_
 have st := St.init w []
 obtain ⟨w0, rfl⟩ : ∃ w0, w0 = w := ⟨_, rfl⟩
 replace st := St.pushR (r := .tree [] (fun w => SmSs 63 70 w [] [] [])) st (Chg.refl _ _) (holds_of (by simp [SmSs]) (by simp) (fun a b h hk => h.kept hk)) (by simp [Res.at?])
 replace st := st.ownNil 70 7
 refine vc_seq (vc_region ?_)
 refine vc_y rfl rfl (y_as rfl) ?_
 refine vc_end (vq_then (vc_keep [(0, _)] ⟨rfl, trivial⟩ (vc_seq (vc_region ?_))))
 refine vc_y rfl rfl (y_as rfl) ?_
 refine vc_end (vq_then (vc_keep [(0, _), (3, _)] ⟨rfl, rfl, trivial⟩ (vc_seq (vc_seq (vc_region ?_)))))
 refine vc_y rfl rfl (y_mv rfl) ?_
 refine vc_y rfl rfl (y_lensl rfl underlying40) ?_
 refine vc_y rfl rfl (y_mv rfl) ?_
 refine vc_end (vq_then (vc_keep [(3, _), (6, _), (7, _), (8, _)] ⟨rfl, rfl, rfl, rfl, trivial⟩ (vc_block ?_)))
 refine vc_loop (w0 := w0) (M := []) (fun (y : Nat × Option Addr × Nat × List Value × List Nat) => [(3, .slice y.2.1 y.1 y.2.2.1), (6, .slice oa es.length cap), (7, .int .i64 (es.length : Int)), (8, .int .i64 (y.1 : Int))]) (fun y => [.own (.slice y.2.1 y.1 y.2.2.1) 70 7 y.1 y.2.2.2.1, .tree y.2.2.2.2 (fun w => SmSs 63 70 w (es.take y.1) y.2.2.2.1 y.2.2.2.2)]) (fun y _ => y.1 ≤ es.length ∧ Nw w0.heap.size y.2.2.2.2) (fun y => es.length - y.1) (0, none, 0, [], []) ⟨rfl, rfl, rfl, rfl, trivial⟩ (by simpa using st) ⟨by simp, Nw.nil⟩ ?_
 clear st
 rintro ⟨j, oj, cj, xs, S⟩ w ⟨hj, hS⟩ st
 dsimp only at *
 refine vc_seq (vc_region ?_)
 refine vc_y rfl rfl (y_lss rfl rfl) ?_
 refine vc_end (vq_then (vc_keep [(3, _), (6, _), (7, _), (8, _), (9, _)] ⟨rfl, rfl, rfl, rfl, rfl, trivial⟩ (vc_seq ?_)))
 refine vc_ifs rfl ?_ ?_
 ·
  intro hc9
  try simp only [dn] at hc9
  have stK := st
  obtain ⟨s, hsj⟩ : ∃ s, es[j]? = some s := ⟨_, List.getElem?_eq_getElem (by omega)⟩
  obtain ⟨gb, go, rfl, hgS, hgl, hg⟩ := SmRow.at hr (by omega)
  obtain ⟨oe, ob, ol, ce, cb, cl, hsV, hse, hsb, hsl, hc⟩ := hg j s hsj
  have hks := hok.2 j s hsj
  have hz := mem_size hsj
  have hB : szo s.body < szo es := by have : szo s.body < szo s := by cases s; exact sm_size.1
                                      omega
  have hL : szo s.els < szo es := by have : szo s.els < szo s := by cases s; exact sm_size.2
                                     omega
  have st := stK
  clear stK
  refine vc_code_skip (vq_then (vc_keep [(3, _), (6, _), (7, _), (8, _)] ⟨rfl, rfl, rfl, rfl, trivial⟩ (vc_seq (vc_block (vc_seq (vc_region ?_))))))
  refine vc_y rfl rfl ((by exact y_ia (k := j) rfl rfl underlying40 sizeOf70 rfl (by omega))) ?_
  refine vc_y rfl rfl ((by exact y_ldca (smL s oe ob ol ce cb cl) rfl isAgg70 sizeOf70 rfl (fun i v hi => st.chg.cell (hc i v hi) (by simp)))) ?_
  refine vc_e (e_al (l := [_, _, _, _, _, _, _]) st rfl rfl zeroValue70 rfl ?_)
  intro b5 w hb5 st
  refine vc_e (e_sts (vs := [_, _, _, _, _, _, _]) st 0 rfl rfl rfl rfl rfl sizeOf70 rfl rfl (by first | (right; assumption) | (left; simp)) ?_)
  intro w st; dsimp only [setNth, wr] at st
  refine vc_end (vq_then (vc_keep [(3, _), (5, _), (6, _), (7, _), (8, _)] ⟨rfl, rfl, rfl, rfl, rfl, trivial⟩ (vc_seq (vc_region ?_))))
  refine vc_y rfl rfl ((by exact y_faz (k := 3) rfl underlying70 rfl rfl sizeOf61 rfl)) ?_
  refine vc_y rfl rfl ((by exact y_ld st 0 rfl isAgg61 rfl rfl)) ?_
  refine vc_e (e_call [_] rfl rfl call45 rfl (rcopyE_any _ s.e rfl hks.e _ _ _ (hse.kept (Same.of_nil st.chg)) (Nat.le_trans hn0 st.chg.size)) ?_)
  rintro _ w ⟨q1, c1, S1, rfl, hQ, hN, cw⟩
  have hN1 := hN.le st.chg.size
  replace st := St.pushR (r := .tree S1 (fun w => ExRQ w q1 c1 s.e S1)) st cw (holds_of hQ hQ.lt (fun a b h hk => h.kept hk)) hN.2
  refine vc_y rfl rfl ((by exact y_faz (k := 3) rfl underlying70 rfl rfl sizeOf61 rfl)) ?_
  refine vc_e (e_st st 1 rfl rfl rfl rfl sizeOf61 rfl rfl (by first | (right; assumption) | (left; simp)) ?_)
  intro w st; dsimp only [setNth, wr] at st
  refine vc_end (vq_then (vc_keep [(3, _), (5, _), (6, _), (7, _), (8, _)] ⟨rfl, rfl, rfl, rfl, rfl, trivial⟩ (vc_seq (vc_region ?_))))
  refine vc_y rfl rfl ((by exact y_faz (k := 4) rfl underlying70 rfl rfl sizeOf40 rfl)) ?_
  refine vc_y rfl rfl ((by exact y_ld st 1 rfl isAgg40 rfl rfl)) ?_
  refine vc_e (e_call [_] rfl rfl call17 rfl (ih _ hB s.body rfl hks.body _ _ _ (hsb.kept (Same.of_nil st.chg)) (Nat.le_trans hn0 st.chg.size)) ?_)
  rintro _ w ⟨q2, c2, S2, rfl, hQ, hN, cw⟩
  have hN2 := hN.le st.chg.size
  replace st := St.pushR (r := .tree S2 (fun w => SmRQ w q2 c2 s.body S2)) st cw (holds_of hQ hQ.lt (fun a b h hk => h.kept hk)) hN.2
  refine vc_y rfl rfl ((by exact y_faz (k := 4) rfl underlying70 rfl rfl sizeOf40 rfl)) ?_
  refine vc_e (e_st st 2 rfl rfl rfl rfl sizeOf40 rfl rfl (by first | (right; assumption) | (left; simp)) ?_)
  intro w st; dsimp only [setNth, wr] at st
  refine vc_end (vq_then (vc_keep [(3, _), (5, _), (6, _), (7, _), (8, _)] ⟨rfl, rfl, rfl, rfl, rfl, trivial⟩ (vc_seq (vc_region ?_))))
  refine vc_y rfl rfl ((by exact y_faz (k := 5) rfl underlying70 rfl rfl sizeOf40 rfl)) ?_
  refine vc_y rfl rfl ((by exact y_ld st 2 rfl isAgg40 rfl rfl)) ?_
  refine vc_e (e_call [_] rfl rfl call17 rfl (ih _ hL s.els rfl hks.els _ _ _ (hsl.kept (Same.of_nil st.chg)) (Nat.le_trans hn0 st.chg.size)) ?_)
  rintro _ w ⟨q3, c3, S3, rfl, hQ, hN, cw⟩
  have hN3 := hN.le st.chg.size
  replace st := St.pushR (r := .tree S3 (fun w => SmRQ w q3 c3 s.els S3)) st cw (holds_of hQ hQ.lt (fun a b h hk => h.kept hk)) hN.2
  refine vc_y rfl rfl ((by exact y_faz (k := 5) rfl underlying70 rfl rfl sizeOf40 rfl)) ?_
  refine vc_e (e_st st 3 rfl rfl rfl rfl sizeOf40 rfl rfl (by first | (right; assumption) | (left; simp)) ?_)
  intro w st; dsimp only [setNth, wr] at st
  refine vc_end (vq_then (vc_keep [(3, _), (5, _), (6, _), (7, _), (8, _)] ⟨rfl, rfl, rfl, rfl, rfl, trivial⟩ (vc_region ?_)))
  refine vc_y rfl rfl (y_mv rfl) ?_
  refine vc_y rfl rfl ((by exact y_lda (vs := [_, _, _, _, _, _, _]) st 3 rfl isAgg70 sizeOf70 rfl rfl)) ?_
  refine vc_e (e_bs1 (l := [_, _, _, _, _, _, _]) st rfl rfl rfl rfl underlying40 sizeOf70 rfl rfl rfl zeroValue70 ?_)
  intro b26 w hb26 st
  refine vc_e (e_app (bytes := 120) st 5 0 rfl rfl rfl rfl rfl rfl underlying40 Tryd.info70 rfl rfl rfl rfl rfl (by simp) rfl rfl (by unfold maxLen; omega) (by omega) ?_)
  intro oaQ capQ w st; dsimp only [setNth] at st
  refine vc_y rfl rfl (y_as rfl) ?_
  refine vc_end (vq_block (vq_then (vc_keep [(3, _), (6, _), (7, _), (8, _)] ⟨rfl, rfl, rfl, rfl, trivial⟩ (vc_region ?_))))
  have d23 := st.ne (i := 2) (j := 1) (by decide) rfl rfl
  have d12 := st.ne (i := 3) (j := 2) (by decide) rfl rfl
  have d13 := st.ne (i := 3) (j := 1) (by decide) rfl rfl
  have dS1 := st.ne (i := 6) (j := 3) (by decide) rfl rfl
  have dS2 := st.ne (i := 6) (j := 2) (by decide) rfl rfl
  have dS3 := st.ne (i := 6) (j := 1) (by decide) rfl rfl
  have hNq := hN1.app (hN2.app hN3 d23) (fun b hb hb' => (List.mem_append.1 hb').elim (d12 b hb) (d13 b hb))
  have hne : ∀ b ∈ S, b ∉ S1 ++ (S2 ++ S3) := fun b hb hb' => (List.mem_append.1 hb').elim (dS1 b hb) fun h => (List.mem_append.1 h).elim (dS2 b hb) (dS3 b hb)
  have h0 := (st.res (i := 6) rfl).1
  have h1 := (st.res (i := 3) rfl).1
  have h2 := (st.res (i := 2) rfl).1
  have h3 := (st.res (i := 1) rfl).1
  have h4 : SmSs 63 70 w (es.take (j + 1)) (xs ++ smL s q1 q2 q3 c1 c2 c3) (S ++ (S1 ++ (S2 ++ S3))) := by rw [take_snoc hsj]; exact SmSs.snoc h0 (SmS_iff.2 ⟨q1, c1, q2, c2, q3, c3, S1, S2, S3, rfl, h1, h2, h3, rfl⟩)
  have stN := (((st.pick [6, 3, 2, 1, 5] rfl (by decide)).joinN 4 (q := .tree (S ++ (S1 ++ (S2 ++ S3))) fun w => SmSs 63 70 w (es.take (j + 1)) (xs ++ smL s q1 q2 q3 c1 c2 c3) (S ++ (S1 ++ (S2 ++ S3)))) (fun k hk => by
    simp only [Res.at?, List.mem_append] at hk
    rcases hk with h | h | h | h
    · exact ⟨_, .head _, h⟩
    · exact ⟨_, .tail _ (.head _), h⟩
    · exact ⟨_, .tail _ (.tail _ (.head _)), h⟩
    · exact ⟨_, .tail _ (.tail _ (.tail _ (.head _))), h⟩) (holds_of h4 h4.lt (fun a b h hk => h.kept hk)))).pick [1, 0] rfl (by decide)
  refine vc_y rfl rfl (y_add rfl rfl (by omega : _ = ((j + 1 : Nat) : Int)) (by omega) (by omega)) ?_
  refine vc_y rfl rfl (y_mv rfl) ?_
  refine vc_end ?_
  refine vq_again (j + 1, oaQ, capQ, xs ++ smL s q1 q2 q3 c1 c2 c3, S ++ (S1 ++ (S2 ++ S3)))  ⟨rfl, rfl, rfl, rfl, trivial⟩ stN ?_ ?_
  ·
   exact ⟨by dsimp only; omega, hS.app hNq hne⟩
  ·
   dsimp only; omega
 ·
  intro hc9
  try simp only [dn] at hc9
  refine vc_exit (vq_then_exit (vq_then_exit (vq_block_exit (vq_then (vc_keep [(3, _)] ⟨rfl, trivial⟩ (vc_seq (vc_region ?_)))))))
  refine vc_y rfl rfl (y_mv rfl) ?_
  refine vc_y rfl rfl (y_as rfl) ?_
  refine vc_end (vq_then (vc_keep [(2, _)] ⟨rfl, trivial⟩ (vc_ret ?_)))
  refine vq_ret1 st (.inl rfl) results17 (.tmp rfl) ?_
  refine ⟨_, rfl, ?_⟩
  obtain rfl : j = es.length := by omega
  rw [List.take_length] at st
  obtain ⟨h1, h2⟩ := st.ownNw (i := 0) rfl
  have h3 := (st.res (i := 1) rfl).1
  exact ⟨oj, cj, obk oj ++ S, rfl, ⟨xs, S, h1, rfl, h3⟩, h2.app hS (fun b hb => st.ne (i := 0) (j := 1) (by decide) rfl rfl b (by simpa [Res.at?, obk_own] using hb)), st.chg⟩

end
end Go.Proofs.YtnmhlpnapgojjaaDoor

namespace Go.Proofs.YtnmhlpnapgojjaaDoor
open Go.RowKit Sx LexS _root_.Go.Proofs.Tryd
set_option linter.unusedVariables false
set_option linter.unusedSimpArgs false
section
variable {n0 : Nat}

set_option maxHeartbeats 2000000 in
theorem rcopyP_any (p : Pg) (hok : OkP p) (os ol ot : Option Addr) (cs cl ct : Nat) (w : World) (hSh : DcRow w (· < n0) os p.shared) (hL : DcRow w (· < n0) ol p.locks) (hT : ThRow w (· < n0) ot p.threads) (hn0 : n0 ≤ w.heap.size) :
    Ret Tryd.prog 6 [.agg (pgL p os ol ot cs cl ct).toArray] w fun v w' => ∃ l S, v = .agg l.toArray ∧ PgQ w' p l S ∧ Nw w.heap.size S ∧ Chg [] w w' := by
 refine ret_of [_] func6 rfl ntmps6 rfl ?_
 have st := St.init w []
 obtain ⟨w0, rfl⟩ : ∃ w0, w0 = w := ⟨_, rfl⟩
 have hn1 := hok.1.1
 have hn2 := hok.2.1.1
 have hn3 := hok.2.2.1
 refine vc_seq (vc_region ?_)
 refine vc_e (e_bx (l := [_, _, _]) st rfl rfl rfl rfl ?_)
 intro b1 w hb1 st
 refine vc_e (e_al (l := [_, _, _]) st rfl rfl zeroValue25 rfl ?_)
 intro b2 w hb2 st
 refine vc_end (vq_then (vc_keep [(1, _), (2, _)] ⟨rfl, rfl, trivial⟩ ?_))
 refine vc_cut (w0 := w0) (M := []) (fun (z : Option Addr × Nat × Option Addr × Nat × List Nat × List Nat × Nat) => [(1, .pointer (some ⟨b1, 0, none⟩)), (2, .pointer (some ⟨b2, 0, none⟩)), (3, .pointer (some ⟨z.2.2.2.2.2.2, 0, none⟩))]) (fun z => [.blk z.2.2.2.2.2.2 (.cells [.slice z.1 p.shared.length z.2.1, .slice z.2.2.1 p.locks.length z.2.2.2.1, .slice none 0 0].toArray 25 (0, 0)), .tree z.2.2.2.2.1 (fun w => DcRQ w z.1 z.2.1 p.shared z.2.2.2.2.1), .tree z.2.2.2.2.2.1 (fun w => DcRQ w z.2.2.1 z.2.2.2.1 p.locks z.2.2.2.2.2.1), .blk b2 (.cells [.slice none 0 0, .slice none 0 0, .slice none 0 0].toArray 25 (0, 0)), .blk b1 (.cells (pgL p os ol ot cs cl ct).toArray 25 (0, 0))]) (fun z _ => Nw w0.heap.size z.2.2.2.2.1 ∧ Nw w0.heap.size z.2.2.2.2.2.1 ∧ w0.heap.size ≤ z.2.2.2.2.2.2) ?_ ?_
 ·
  refine vd_draw Tryd.mixed (.take 0 (.take 1 (.take 3 (.take 4 (.two 2 7 (.two 5 7 (.take 6 (.one 7 (.one 8 .done))) (.one 5 (.take 6 (.one 8 .done)))) (.one 2 (.one 5 (.take 6 (.one 8 .done))))))))) (fun w => St _ _ [.blk b2 (.cells [.slice none 0 0, .slice none 0 0, .slice none 0 0].toArray 25 (0, 0)), .blk b1 (.cells (pgL p os ol ot cs cl ct).toArray 25 (0, 0))] w) (by exact st) (by kernel_rfl) (by repeat (first | exact okQ_body | refine okQ_then ?_ | refine okQ_block ?_)) rfl (by kernel_rfl) ?_
  intro w cd; replace st := st.call0 cd; clear cd
  have hS : St _ _ [.blk b2 (.cells [.slice none 0 0, .slice none 0 0, .slice none 0 0].toArray 25 (0, 0)), .blk b1 (.cells (pgL p os ol ot cs cl ct).toArray 25 (0, 0))] w := (by exact st)
  refine vd_take rfl rfl rfl hS (fun w st => y_fa0 rfl underlying25 rfl rfl sizeOf22 rfl) ?_
  refine vd_take rfl rfl rfl hS (fun w st => (by exact y_ld st 1 rfl isAgg22 rfl rfl)) ?_
  refine vd_take rfl rfl rfl hS (fun w st => (by exact y_faz (k := 1) rfl underlying25 rfl rfl sizeOf22 rfl)) ?_
  refine vd_take rfl rfl rfl hS (fun w st => (by exact y_ld st 1 rfl isAgg22 rfl rfl)) ?_
  refine vd_two rfl rfl ?_ ?_
  ·
   refine (e_call [_] rfl rfl call16 rfl (rcopyD_any p.shared hn1 _ _ _ (RowC.kept hSh (Same.of_nil st.chg))) ?_)
   rintro _ w ⟨s1o, s1c, S1, rfl, hQ, hN, cw⟩
   have hN1 := hN.le st.chg.size
   replace st := St.pushR (r := .tree S1 (fun w => DcRQ w s1o s1c p.shared S1)) st cw (holds_of hQ hQ.lt (fun a b h hk => h.kept hk)) hN.2
   refine vd_next (by exact st.drop (by repeat (first | exact sl0 | apply sl1 | apply sl2))) ?_; intro hS
   refine vd_two rfl rfl ?_ ?_
   ·
    refine (e_call [_] rfl rfl call16 rfl (rcopyD_any p.locks hn2 _ _ _ (RowC.kept hL (Same.of_nil st.chg))) ?_)
    rintro _ w ⟨s2o, s2c, S2, rfl, hQ, hN, cw⟩
    have hN2 := hN.le st.chg.size
    replace st := St.pushR (r := .tree S2 (fun w => DcRQ w s2o s2c p.locks S2)) st cw (holds_of hQ hQ.lt (fun a b h hk => h.kept hk)) hN.2
    refine vd_next (by exact st.drop (by repeat (first | exact sl0 | apply sl1 | apply sl2))) ?_; intro hS
    refine vd_take rfl rfl rfl hS (fun w st => y_bld (.agg #[_, _, _]) [(0, _), (1, _)] rfl (fun w => by simp [Instr.build, go_sem] <;> repeat' constructor)) ?_
    refine vd_do rfl (e_al (l := [_, _, _]) st rfl rfl zeroValue25 rfl ?_)
    intro b3 w hb3 st
    refine vd_next (by exact st.drop (by repeat (first | exact sl0 | apply sl1 | apply sl2))) ?_; intro hS
    refine vd_do rfl (e_sts (vs := [_, _, _]) st 0 rfl rfl rfl rfl rfl sizeOf25 rfl rfl (by first | (right; assumption) | (left; simp)) ?_)
    intro w st; dsimp only [setNth, wr] at st
    refine vd_next (by exact st.drop (by repeat (first | exact sl0 | apply sl1 | apply sl2))) ?_; intro hS
    refine vd_end ?_
    refine vq_meet (s1o, s1c, s2o, s2c, S1, S2, b3) ⟨rfl, rfl, rfl, trivial⟩ (st.pick [0, 2, 1, 3, 4] rfl (by decide)) ?_
    ·
     exact ⟨hN1, hN2, by assumption⟩
   ·
    refine (e_al (l := [_, _, _]) st rfl rfl zeroValue25 rfl ?_)
    intro b3 w hb3 st
    refine vd_next (by exact st.drop (by repeat (first | exact sl0 | apply sl1 | apply sl2))) ?_; intro hS
    refine vd_do rfl (e_call [_] rfl rfl call16 rfl (rcopyD_any p.locks hn2 _ _ _ (RowC.kept hL (Same.of_nil st.chg))) ?_)
    rintro _ w ⟨s2o, s2c, S2, rfl, hQ, hN, cw⟩
    have hN2 := hN.le st.chg.size
    replace st := St.pushR (r := .tree S2 (fun w => DcRQ w s2o s2c p.locks S2)) st cw (holds_of hQ hQ.lt (fun a b h hk => h.kept hk)) hN.2
    refine vd_next (by exact st.drop (by repeat (first | exact sl0 | apply sl1 | apply sl2))) ?_; intro hS
    refine vd_take rfl rfl rfl hS (fun w st => y_bld (.agg #[_, _, _]) [(0, _), (1, _)] rfl (fun w => by simp [Instr.build, go_sem] <;> repeat' constructor)) ?_
    refine vd_do rfl (e_sts (vs := [_, _, _]) st 1 rfl rfl rfl rfl rfl sizeOf25 rfl rfl (by first | (right; assumption) | (left; simp)) ?_)
    intro w st; dsimp only [setNth, wr] at st
    refine vd_next (by exact st.drop (by repeat (first | exact sl0 | apply sl1 | apply sl2))) ?_; intro hS
    refine vd_end ?_
    refine vq_meet (s1o, s1c, s2o, s2c, S1, S2, b3) ⟨rfl, rfl, rfl, trivial⟩ (st.pick [1, 2, 0, 3, 4] rfl (by decide)) ?_
    ·
     exact ⟨hN1, hN2, by assumption⟩
  ·
   refine (e_al (l := [_, _, _]) st rfl rfl zeroValue25 rfl ?_)
   intro b3 w hb3 st
   refine vd_next (by exact st.drop (by repeat (first | exact sl0 | apply sl1 | apply sl2))) ?_; intro hS
   refine vd_do rfl (e_call [_] rfl rfl call16 rfl (rcopyD_any p.shared hn1 _ _ _ (RowC.kept hSh (Same.of_nil st.chg))) ?_)
   rintro _ w ⟨s1o, s1c, S1, rfl, hQ, hN, cw⟩
   have hN1 := hN.le st.chg.size
   replace st := St.pushR (r := .tree S1 (fun w => DcRQ w s1o s1c p.shared S1)) st cw (holds_of hQ hQ.lt (fun a b h hk => h.kept hk)) hN.2
   refine vd_next (by exact st.drop (by repeat (first | exact sl0 | apply sl1 | apply sl2))) ?_; intro hS
   refine vd_do rfl (e_call [_] rfl rfl call16 rfl (rcopyD_any p.locks hn2 _ _ _ (RowC.kept hL (Same.of_nil st.chg))) ?_)
   rintro _ w ⟨s2o, s2c, S2, rfl, hQ, hN, cw⟩
   have hN2 := hN.le st.chg.size
   replace st := St.pushR (r := .tree S2 (fun w => DcRQ w s2o s2c p.locks S2)) st cw (holds_of hQ hQ.lt (fun a b h hk => h.kept hk)) hN.2
   refine vd_next (by exact st.drop (by repeat (first | exact sl0 | apply sl1 | apply sl2))) ?_; intro hS
   refine vd_take rfl rfl rfl hS (fun w st => y_bld (.agg #[_, _, _]) [(0, _), (1, _)] rfl (fun w => by simp [Instr.build, go_sem] <;> repeat' constructor)) ?_
   refine vd_do rfl (e_sts (vs := [_, _, _]) st 2 rfl rfl rfl rfl rfl sizeOf25 rfl rfl (by first | (right; assumption) | (left; simp)) ?_)
   intro w st; dsimp only [setNth, wr] at st
   refine vd_next (by exact st.drop (by repeat (first | exact sl0 | apply sl1 | apply sl2))) ?_; intro hS
   refine vd_end ?_
   refine vq_meet (s1o, s1c, s2o, s2c, S1, S2, b3) ⟨rfl, rfl, rfl, trivial⟩ (st.pick [2, 1, 0, 3, 4] rfl (by decide)) ?_
   ·
    exact ⟨hN1, hN2, by assumption⟩
 ·
  clear st
  rintro ⟨s1o, s1c, s2o, s2c, S1, S2, b3⟩ w ⟨hN1, hN2, hb3⟩ st
  dsimp only at *
  refine vc_seq (vc_seq (vc_region ?_))
  replace st := St.pushR (r := .tree [] (fun w => ThSs 63 70 67 w [] [] [])) st (Chg.refl _ _) (holds_of (by simp [ThSs]) (by simp) (fun a b h hk => h.kept hk)) (by simp [Res.at?])
  replace st := st.ownNil 42 4
  refine vc_y rfl rfl ((by exact y_faz (k := 2) rfl underlying25 rfl rfl sizeOf23 rfl)) ?_
  refine vc_y rfl rfl ((by exact y_ld st 6 rfl isAgg23 rfl rfl)) ?_
  refine vc_y rfl rfl (y_lensl rfl underlying23) ?_
  refine vc_y rfl rfl (y_mv rfl) ?_
  refine vc_end (vq_then (vc_keep [(2, _), (3, _), (14, _), (15, _), (16, _)] ⟨rfl, rfl, rfl, rfl, rfl, trivial⟩ (vc_block ?_)))
  refine vc_loop (w0 := w0) (M := []) (fun (y : Nat × Option Addr × Nat × List Value × List Nat) => [(2, .pointer (some ⟨b2, 0, none⟩)), (3, .pointer (some ⟨b3, 0, none⟩)), (14, .slice ot p.threads.length ct), (15, .int .i64 (p.threads.length : Int)), (16, .int .i64 (y.1 : Int))]) (fun y => [.own (.slice y.2.1 y.1 y.2.2.1) 42 4 y.1 y.2.2.2.1, .tree y.2.2.2.2 (fun w => ThSs 63 70 67 w (p.threads.take y.1) y.2.2.2.1 y.2.2.2.2), .blk b3 (.cells [.slice s1o p.shared.length s1c, .slice s2o p.locks.length s2c, .slice y.2.1 y.1 y.2.2.1].toArray 25 (0, 0)), .tree S1 (fun w => DcRQ w s1o s1c p.shared S1), .tree S2 (fun w => DcRQ w s2o s2c p.locks S2), .blk b2 (.cells [.slice none 0 0, .slice none 0 0, .slice none 0 0].toArray 25 (0, 0))]) (fun y _ => y.1 ≤ p.threads.length ∧ Nw w0.heap.size y.2.2.2.2) (fun y => p.threads.length - y.1) (0, none, 0, [], []) ⟨rfl, rfl, rfl, rfl, rfl, trivial⟩ (by simpa using st.pick [0, 1, 2, 3, 4, 5] rfl (by decide)) ⟨by simp, Nw.nil⟩ ?_
  clear st
  rintro ⟨j, oj, cj, xs, S⟩ w ⟨hj, hSS⟩ st
  dsimp only at *
  refine vc_seq (vc_region ?_)
  refine vc_y rfl rfl (y_lss rfl rfl) ?_
  refine vc_end (vq_then (vc_keep [(2, _), (3, _), (14, _), (15, _), (16, _), (17, _)] ⟨rfl, rfl, rfl, rfl, rfl, rfl, trivial⟩ (vc_seq ?_)))
  refine vc_ifs rfl ?_ ?_
  ·
   intro hc17
   try simp only [dn] at hc17
   have stK := st
   obtain ⟨t, htj⟩ : ∃ t, p.threads[j]? = some t := ⟨_, List.getElem?_eq_getElem (by omega)⟩
   obtain ⟨gb, go, rfl, hgS, hgl, hg⟩ := ThRow.at hT (by omega)
   obtain ⟨tl, tb, cll, cbb, htl, htb, hc⟩ := hg j t htj
   have hkt := hok.2.2.2 j t htj
   have st := stK
   clear stK
   refine vc_code_skip (vq_then (vc_keep [(2, _), (3, _), (14, _), (15, _), (16, _)] ⟨rfl, rfl, rfl, rfl, rfl, trivial⟩ (vc_seq (vc_block (vc_seq (vc_region ?_))))))
   refine vc_y rfl rfl ((by exact y_ia (k := j) rfl rfl underlying23 sizeOf42 rfl (by omega))) ?_
   refine vc_y rfl rfl ((by exact y_ldca (thL t tl tb cll cbb) rfl isAgg42 sizeOf42 rfl (fun i v hi => st.chg.cell (hc i v hi) (by simp)))) ?_
   refine vc_e (e_al (l := [_, _, _, _]) st rfl rfl zeroValue42 rfl ?_)
   intro b5 w hb5 st
   refine vc_e (e_sts (vs := [_, _, _, _]) st 0 rfl rfl rfl rfl rfl sizeOf42 rfl rfl (by first | (right; assumption) | (left; simp)) ?_)
   intro w st; dsimp only [setNth, wr] at st
   refine vc_end (vq_then (vc_keep [(2, _), (3, _), (5, _), (14, _), (15, _), (16, _)] ⟨rfl, rfl, rfl, rfl, rfl, rfl, trivial⟩ (vc_seq (vc_region ?_))))
   refine vc_y rfl rfl ((by exact y_faz (k := 1) rfl underlying42 rfl rfl sizeOf22 rfl)) ?_
   refine vc_y rfl rfl ((by exact y_ld st 0 rfl isAgg22 rfl rfl)) ?_
   refine vc_e (e_call [_] rfl rfl call16 rfl (rcopyD_any t.locals hkt.1.1 _ _ _ (RowC.kept htl (Same.of_nil st.chg))) ?_)
   rintro _ w ⟨s3o, s3c, S3, rfl, hQ, hN, cw⟩
   have hN3 := hN.le st.chg.size
   replace st := St.pushR (r := .tree S3 (fun w => DcRQ w s3o s3c t.locals S3)) st cw (holds_of hQ hQ.lt (fun a b h hk => h.kept hk)) hN.2
   refine vc_y rfl rfl ((by exact y_faz (k := 1) rfl underlying42 rfl rfl sizeOf22 rfl)) ?_
   refine vc_e (e_st st 1 rfl rfl rfl rfl sizeOf22 rfl rfl (by first | (right; assumption) | (left; simp)) ?_)
   intro w st; dsimp only [setNth, wr] at st
   refine vc_end (vq_then (vc_keep [(2, _), (3, _), (5, _), (14, _), (15, _), (16, _)] ⟨rfl, rfl, rfl, rfl, rfl, rfl, trivial⟩ (vc_seq (vc_region ?_))))
   refine vc_y rfl rfl ((by exact y_faz (k := 2) rfl underlying42 rfl rfl sizeOf40 rfl)) ?_
   refine vc_y rfl rfl ((by exact y_ld st 1 rfl isAgg40 rfl rfl)) ?_
   refine vc_e (e_call [_] rfl rfl call17 rfl (rcopyS_any _ t.body rfl hkt.2.1 _ _ _ (htb.kept (Same.of_nil st.chg)) (Nat.le_trans hn0 st.chg.size)) ?_)
   rintro _ w ⟨s4o, s4c, S4, rfl, hQ, hN, cw⟩
   have hN4 := hN.le st.chg.size
   replace st := St.pushR (r := .tree S4 (fun w => SmRQ w s4o s4c t.body S4)) st cw (holds_of hQ hQ.lt (fun a b h hk => h.kept hk)) hN.2
   refine vc_y rfl rfl ((by exact y_faz (k := 2) rfl underlying42 rfl rfl sizeOf40 rfl)) ?_
   refine vc_e (e_st st 2 rfl rfl rfl rfl sizeOf40 rfl rfl (by first | (right; assumption) | (left; simp)) ?_)
   intro w st; dsimp only [setNth, wr] at st
   refine vc_end (vq_then (vc_keep [(2, _), (3, _), (5, _), (14, _), (15, _), (16, _)] ⟨rfl, rfl, rfl, rfl, rfl, rfl, trivial⟩ (vc_region ?_)))
   refine vc_y rfl rfl ((by exact y_faz (k := 2) rfl underlying25 rfl rfl sizeOf23 rfl)) ?_
   refine vc_y rfl rfl ((by exact y_ld st 5 rfl isAgg23 rfl rfl)) ?_
   refine vc_y rfl rfl ((by exact y_lda (vs := [_, _, _, _]) st 2 rfl isAgg42 sizeOf42 rfl rfl)) ?_
   refine vc_e (e_bs1 (l := [_, _, _, _]) st rfl rfl rfl rfl underlying23 sizeOf42 rfl rfl rfl zeroValue42 ?_)
   intro b31 w hb31 st
   refine vc_e (e_app (bytes := 72) st 4 0 rfl rfl rfl rfl rfl rfl underlying23 Tryd.info42 rfl rfl rfl rfl rfl (by simp) rfl rfl (by unfold maxLen; omega) (by omega) ?_)
   intro oaQ capQ w st; dsimp only [setNth] at st
   refine vc_y rfl rfl ((by exact y_faz (k := 2) rfl underlying25 rfl rfl sizeOf23 rfl)) ?_
   refine vc_e (e_st st 6 rfl rfl rfl rfl sizeOf23 rfl rfl (by first | (right; assumption) | (left; simp)) ?_)
   intro w st; dsimp only [setNth, wr] at st
   refine vc_end (vq_block (vq_then (vc_keep [(2, _), (3, _), (14, _), (15, _), (16, _)] ⟨rfl, rfl, rfl, rfl, rfl, trivial⟩ (vc_region ?_))))
   have d34 := st.ne (i := 2) (j := 1) (by decide) rfl rfl
   have dS3 := st.ne (i := 5) (j := 2) (by decide) rfl rfl
   have dS4 := st.ne (i := 5) (j := 1) (by decide) rfl rfl
   have hNq := hN3.app hN4 d34
   have hne : ∀ b ∈ S, b ∉ S3 ++ S4 := fun b hb hb' => (List.mem_append.1 hb').elim (dS3 b hb) (dS4 b hb)
   have h0 := (st.res (i := 5) rfl).1
   have h3 := (st.res (i := 2) rfl).1
   have h4 := (st.res (i := 1) rfl).1
   have h5 : ThSs 63 70 67 w (p.threads.take (j + 1)) (xs ++ thL t s3o s4o s3c s4c) (S ++ (S3 ++ S4)) := by rw [take_snoc htj]; exact ThSs.snoc h0 ⟨s3o, s3c, s4o, s4c, S3, S4, rfl, h3, h4, rfl⟩
   have stN := (((st.pick [5, 2, 1, 4, 6, 7, 8, 9] rfl (by decide)).joinN 3 (q := .tree (S ++ (S3 ++ S4)) fun w => ThSs 63 70 67 w (p.threads.take (j + 1)) (xs ++ thL t s3o s4o s3c s4c) (S ++ (S3 ++ S4))) (fun k hk => by
     simp only [Res.at?, List.mem_append] at hk
     rcases hk with h | h | h
     · exact ⟨_, .head _, h⟩
     · exact ⟨_, .tail _ (.head _), h⟩
     · exact ⟨_, .tail _ (.tail _ (.head _)), h⟩) (holds_of h5 h5.lt (fun a b h hk => h.kept hk)))).pick [1, 0, 2, 3, 4, 5] rfl (by decide)
   refine vc_y rfl rfl (y_add rfl rfl (by omega : _ = ((j + 1 : Nat) : Int)) (by omega) (by omega)) ?_
   refine vc_y rfl rfl (y_mv rfl) ?_
   refine vc_end ?_
   refine vq_again (j + 1, oaQ, capQ, xs ++ thL t s3o s4o s3c s4c, S ++ (S3 ++ S4))  ⟨rfl, rfl, rfl, rfl, rfl, trivial⟩ stN ?_ ?_
   ·
    exact ⟨by dsimp only; omega, hSS.app hNq hne⟩
   ·
    dsimp only; omega
  ·
   intro hc17
   try simp only [dn] at hc17
   obtain rfl : j = p.threads.length := by omega
   rw [List.take_length] at st
   refine vc_exit (vq_then_exit (vq_then_exit (vq_block_exit (vq_then (vc_keep [(2, _), (3, _)] ⟨rfl, rfl, trivial⟩ (vc_seq (vc_region ?_)))))))
   refine vc_y rfl rfl ((by exact y_lda (vs := [_, _, _]) st 2 rfl isAgg25 sizeOf25 rfl rfl)) ?_
   refine vc_e (e_sts (vs := [_, _, _]) st 5 rfl rfl rfl rfl rfl sizeOf25 rfl rfl (by first | (right; assumption) | (left; simp)) ?_)
   intro w st; dsimp only [setNth, wr] at st
   refine vc_end (vq_then (vc_keep [(2, _)] ⟨rfl, trivial⟩ (vc_ret ?_)))
   refine vq_ret1 st (.inl rfl) results6 (by exact .cell 5 rfl rfl isAgg25 sizeOf25) ?_
   refine ⟨_, rfl, ?_⟩
   obtain ⟨h1, h2⟩ := st.ownNw (i := 0) rfl
   have h3 := (st.res (i := 1) rfl).1
   have h4 := (st.res (i := 3) rfl).1
   have h5 := (st.res (i := 4) rfl).1
   have e0 := st.ne (i := 0) (j := 1) (by decide) rfl rfl
   have e1 := st.ne (i := 3) (j := 4) (by decide) rfl rfl
   have e2 := st.ne (i := 3) (j := 0) (by decide) rfl rfl
   have e3 := st.ne (i := 3) (j := 1) (by decide) rfl rfl
   have e4 := st.ne (i := 4) (j := 0) (by decide) rfl rfl
   have e5 := st.ne (i := 4) (j := 1) (by decide) rfl rfl
   simp only [Res.at?, obk_own] at e0 e1 e2 e3 e4 e5
   exact ⟨_, S1 ++ (S2 ++ (obk oj ++ S)), rfl, ⟨s1o, s1c, s2o, s2c, oj, cj, S1, S2, obk oj ++ S, rfl, h4, h5, ⟨xs, S, h1, rfl, h3⟩, rfl⟩,
     hN1.app (hN2.app (h2.app hSS e0) (fun b hb hb' => (List.mem_append.1 hb').elim (e4 b hb) (e5 b hb))) (fun b hb hb' => (List.mem_append.1 hb').elim (e1 b hb) fun h => (List.mem_append.1 h).elim (e2 b hb) (e3 b hb)), st.chg⟩

end
end Go.Proofs.YtnmhlpnapgojjaaDoor

namespace Go.Proofs.YtnmhlpnapgojjaaDoor
open Go.RowKit Sx LexS _root_.Go.Proofs.Tryd
set_option linter.unusedVariables false
set_option linter.unusedSimpArgs false
def nameE (s : List UInt8) : Ex := .mk 2 0 0 s [] 0
def opE (op : Int) (x y : Ex) : Ex := .mk 4 op 0 [] [x, y] 0
/-- Expr's answer -/
def exprT (e : Ex) : List UInt8 × Nat := if rightE e 0 = true then (if (txtE e).length ≤ 65536 then (txtE e, 0) else ([], 4)) else ([], 40)
theorem exV_name (s : List UInt8) (w : World) (S : Nat → Prop) : ExV w S (nameE s) (exL (nameE s) none 0) := .mk (fun _ => []) (.inl rfl) (fun j x h => by simp at h)
theorem exV_two {w : World} {S : Nat → Prop} {op : Int} {x y : Ex} {lx ly : List Value} {b E : Nat} {fz : Nat × Nat} (h : w.heap[b]? = some (.cells (lx ++ ly).toArray E fz)) (hS : S b) (hx : ExV w S x lx) (hy : ExV w S y ly) : ExV w S (opE op x y) (exL (opE op x y) (some ⟨b, 0, none⟩) 2) := by
 have h6 := hx.len
 have h6' := hy.len
 refine .mk (fun j => if j = 0 then lx else ly) (.inr ⟨b, 0, rfl, hS, (Array.getElem?_eq_some_iff.1 h).1, fun j hj => ?_⟩) (fun j z hz => ?_)
 ·
  simp only [List.length_cons, List.length_nil] at hj
  rcases (by omega : j = 0 ∨ j = 1) with rfl | rfl
  ·
   refine ⟨h6, fun i v hi => ?_⟩
   refine cell_blk h ?_
   have hi' : lx[i]? = some v := hi
   rw [nth_eq, show 0 + 0 * 6 + i = i by omega, List.getElem?_append_left (List.getElem?_eq_some_iff.1 hi').1]
   exact hi'
  ·
   refine ⟨h6', fun i v hi => ?_⟩
   refine cell_blk h ?_
   rw [nth_eq, show 0 + 1 * 6 + i = lx.length + i by omega, List.getElem?_append_right (by omega), Nat.add_sub_cancel_left]
   exact hi
 ·
  match j, hz with
  | 0, hz => simp at hz; subst hz; exact hx
  | 1, hz => simp at hz; subst hz; exact hy
  | j + 2, hz => simp at hz
theorem rowC_one {w : World} {S : Nat → Prop} {b E sz : Nat} {fz : Nat × Nat} {l : List Value} {vs : Nat → List Value} (h : w.heap[b]? = some (.cells l.toArray E fz)) (hS : S b) (hl : l.length = sz) (hv : vs 0 = l) : RowC w S sz (some ⟨b, 0, none⟩) 1 vs := by
 refine .inr ⟨b, 0, rfl, hS, (Array.getElem?_eq_some_iff.1 h).1, fun j hj => ?_⟩
 obtain rfl : j = 0 := by omega
 rw [hv]
 refine ⟨hl, fun i v hi => cell_blk h ?_⟩
 rw [nth_eq, show 0 + 0 * sz + i = i by omega]
 exact hi
section
variable {n0 : Nat}

theorem name30_any (s : List UInt8) (w : World) : Ret Tryd.prog 30 [str s] w fun v w' => v = .agg (exL (nameE s) none 0).toArray ∧ Chg [] w w' := by
 refine ret_of [_] func30 rfl ntmps30 rfl ?_
 have st := St.init w []
 refine vc_seq (vc_region ?_)
 refine vc_e (e_al (l := [_, _, _, _, _, _]) st rfl rfl zeroValue63 rfl ?_)
 intro b2 w hb2 st
 refine vc_end (vq_then (vc_keep [(0, _), (2, _)] ⟨rfl, rfl, trivial⟩ (vc_seq (vc_region ?_))))
 refine vc_y rfl rfl (y_mv rfl) ?_
 refine vc_y rfl rfl (y_bld (.agg #[_, _, _, _, _, _]) [(0, _), (3, _)] rfl (fun w => by simp [Instr.build, go_sem] <;> repeat' constructor)) ?_
 refine vc_e (e_sts (vs := [_, _, _, _, _, _]) st 0 rfl rfl rfl rfl rfl sizeOf63 rfl rfl (by first | (right; assumption) | (left; simp)) ?_)
 intro w st; dsimp only [setNth, wr] at st
 refine vc_end (vq_then (vc_keep [(2, _)] ⟨rfl, trivial⟩ (vc_ret ?_)))
 refine vq_ret1 st (.inl rfl) results30 (by exact .cell 0 rfl rfl isAgg63 sizeOf63) ?_
 refine ⟨_, rfl, ?_⟩
 exact ⟨rfl, st.chg⟩

theorem binary_any (op : Int) (x y : Ex) (o o' : Option Addr) (c c' : Nat) (w : World) : Ret Tryd.prog 29 [.int .u8 op, .agg (exL x o c).toArray, .agg (exL y o' c').toArray] w fun v w' => ∃ b, v = .agg (exL (opE op x y) (some ⟨b, 0, none⟩) 2).toArray ∧ w.heap.size ≤ b ∧ w'.heap[b]? = some (.cells (exL x o c ++ exL y o' c').toArray 63 (0, 0)) ∧ Chg [] w w' := by
 refine ret_of [_, _, _] func29 rfl ntmps29 rfl ?_
 have st := St.init w []
 refine vc_seq (vc_region ?_)
 refine vc_e (e_bx (l := [_, _, _, _, _, _]) st rfl rfl rfl rfl ?_)
 intro b4 w hb4 st
 refine vc_e (e_bx (l := [_, _, _, _, _, _]) st rfl rfl rfl rfl ?_)
 intro b5 w hb5 st
 refine vc_e (e_al (l := [_, _, _, _, _, _]) st rfl rfl zeroValue63 rfl ?_)
 intro b6 w hb6 st
 refine vc_end (vq_then (vc_keep [(0, _), (4, _), (5, _), (6, _)] ⟨rfl, rfl, rfl, rfl, trivial⟩ (vc_seq (vc_region ?_))))
 refine vc_y rfl rfl (y_mv rfl) ?_
 refine vc_y rfl rfl ((by exact y_lda (vs := [_, _, _, _, _, _]) st 2 rfl isAgg63 sizeOf63 rfl rfl)) ?_
 refine vc_y rfl rfl ((by exact y_lda (vs := [_, _, _, _, _, _]) st 1 rfl isAgg63 sizeOf63 rfl rfl)) ?_
 refine vc_e (e_bsn (l := exL x o c ++ exL y o' c') (E := 63) st [(0, _), (1, _)] rfl rfl rfl (fun w => by simp [Instr.buildSlice, run_underlying underlying61, sizeOf63, zeroValue63, Instr.fill, newRow, newObj, Sem.run, go_sem, Value.cells]) ?_)
 intro b10 w hb10 st
 refine vc_y rfl rfl (y_bld (.agg #[_, _, _, _, _, _]) [(0, _), (1, _), (4, _)] rfl (fun w => by simp [Instr.build, go_sem] <;> repeat' constructor)) ?_
 refine vc_e (e_sts (vs := [_, _, _, _, _, _]) st 1 rfl rfl rfl rfl rfl sizeOf63 rfl rfl (by first | (right; assumption) | (left; simp)) ?_)
 intro w st; dsimp only [setNth, wr] at st
 refine vc_end (vq_then (vc_keep [(6, _)] ⟨rfl, trivial⟩ (vc_ret ?_)))
 refine vq_ret1 st (.inl rfl) results29 (by exact .cell 1 rfl rfl isAgg63 sizeOf63) ?_
 refine ⟨_, rfl, ?_⟩
 exact ⟨b10, rfl, hb10, st.res (i := 0) rfl, st.chg⟩

theorem exprT_any (e : Ex) (hok : OkE e) (l : List Value) (w : World) (hV : ExV w (· < w.heap.size) e l) (hsg : Sig w) (hlen : (txtE e).length ≤ 1099511627776) :
    Ret Tryd.prog 28 [.agg l.toArray] w fun v w' => v = .tuple #[str (exprT e).1, .int .i64 ((exprT e).2 : Int)] ∧ Chg [] w w' := by
 refine ret_of [_] func28 rfl ntmps28 rfl ?_
 have st := St.init w []
 obtain ⟨w0, rfl⟩ : ∃ w0, w0 = w := ⟨_, rfl⟩
 have h0 := hsg.pos
 obtain ⟨oa, cap, rfl, hr⟩ := ExV.inv hV
 refine vc_seq (vc_region ?_)
 refine vc_e (e_bx (l := [_, _, _, _, _, _]) st rfl rfl rfl rfl ?_)
 intro b1 w hb1 st
 iterate 2 refine vc_y rfl rfl (y_as rfl) ?_
 refine vc_end (vq_then (vc_keep [(1, _)] ⟨rfl, trivial⟩ (vc_seq (vc_seq (vc_region ?_)))))
 refine vc_y rfl rfl ((by exact y_lda (vs := [_, _, _, _, _, _]) st 0 rfl isAgg63 sizeOf63 rfl rfl)) ?_
 refine vc_e (e_call [_, _] rfl rfl call63 rfl (expr_any _ e rfl 0 (by omega) _ _ (hV.kept (Same.of_nil st.chg)) (hsg.kept st.chg)) ?_)
 rintro _ w ⟨rfl, cw⟩
 replace st := st.call0 cw
 refine vc_y rfl rfl (y_not rfl) ?_
 refine vc_end (vq_then (vc_keep [(1, _), (7, _)] ⟨rfl, rfl, trivial⟩ ?_))
 refine vc_ifs rfl ?_ ?_
 ·
  intro hc7
  try simp only [dn] at hc7
  refine vc_seq (vc_region ?_)
  iterate 2 refine vc_y rfl rfl (y_as rfl) ?_
  refine vc_end (vq_then (vc_keep [(2, _), (3, _)] ⟨rfl, rfl, trivial⟩ (vc_ret (vq_then_ret ?_))))
  refine vq_ret2 st (.inl rfl) results28 (.tmp rfl) (.tmp rfl) ?_
  refine ⟨_, rfl, ?_⟩
  refine ⟨?_, st.chg⟩
  unfold exprT
  rw [if_neg (by simp_all)]; rfl
 ·
  intro hc7
  try simp only [dn] at hc7
  refine vc_code_skip (vq_then (vc_keep [(1, _)] ⟨rfl, trivial⟩ (vc_seq (vc_region ?_))))
  refine vc_y rfl rfl ((by exact y_lda (vs := [_, _, _, _, _, _]) st 0 rfl isAgg63 sizeOf63 rfl rfl)) ?_
  refine vc_e (e_call [_, _] rfl rfl call64 rfl (text_any _ e rfl 0 (by assumption) hok (.slice none 0 0) [] _ _ (hV.kept (Same.of_nil st.chg)) (World.ownsRow_nil _ 0 5 1) (fun k hk => by simp [Value.ownBlock] at hk) st.chg.size h0 (hsg.kept st.chg) (by simpa using hlen)) ?_)
  rintro r w ⟨l2, hp, hT⟩
  obtain ⟨o2, c2, hv2⟩ := slice_form hp.1
  subst hv2
  replace st := st.call0 (by simpa [Value.ownBlock] using hp.2.1)
  obtain ⟨t1, t2, -, -⟩ := hT
  simp only [List.length_nil, Nat.zero_add, List.nil_append] at t1 t2
  refine vc_y rfl rfl (y_as rfl) ?_
  refine vc_end (vq_then (vc_keep [(4, _)] ⟨rfl, trivial⟩ (vc_seq (vc_seq (vc_region ?_)))))
  refine vc_y rfl rfl (y_mv rfl) ?_
  refine vc_y rfl rfl (y_lensl rfl underlying45) ?_
  refine vc_y rfl rfl (y_gtr rfl rfl) ?_
  refine vc_end (vq_then (vc_keep [(4, _), (12, _)] ⟨rfl, rfl, trivial⟩ ?_))
  refine vc_ifs rfl ?_ ?_
  ·
   intro hc12
   try simp only [dn] at hc12
   refine vc_seq (vc_region ?_)
   iterate 2 refine vc_y rfl rfl (y_as rfl) ?_
   refine vc_end (vq_then (vc_keep [(2, _), (3, _)] ⟨rfl, rfl, trivial⟩ (vc_ret (vq_then_ret ?_))))
   refine vq_ret2 st (.inl rfl) results28 (.tmp rfl) (.tmp rfl) ?_
   refine ⟨_, rfl, ?_⟩
   refine ⟨?_, st.chg⟩
   have hlong : 65536 < (txtE e).length := by
    rcases Nat.lt_or_ge 65536 (txtE e).length with h | h
    ·
     exact h
    ·
     rw [t1 h] at *; omega
   unfold exprT
   rw [if_pos (by assumption), if_neg (by omega)]; rfl
  ·
   intro hc12
   try simp only [dn] at hc12
   refine vc_code_skip (vq_then (vc_keep [(4, _)] ⟨rfl, trivial⟩ (vc_seq (vc_region ?_))))
   refine vc_y rfl rfl (y_mv rfl) ?_
   refine vc_y rfl rfl (y_b2s rfl (p := l2) (own_rdp hp.1) rfl underlying45 underlying5 underlying9) ?_
   iterate 2 refine vc_y rfl rfl (y_as rfl) ?_
   refine vc_end (vq_then (vc_keep [(2, _), (3, _)] ⟨rfl, rfl, trivial⟩ (vc_ret ?_)))
   refine vq_ret2 st (.inl rfl) results28 (.tmp rfl) (.tmp rfl) ?_
   refine ⟨_, rfl, ?_⟩
   refine ⟨?_, st.chg⟩
   have hshort : (txtE e).length ≤ 65536 := by
    rcases Nat.lt_or_ge 65536 (txtE e).length with h | h
    ·
     have := t2 h; omega
    ·
     exact h
   unfold exprT
   rw [if_pos (by assumption), if_pos hshort, t1 hshort]; rfl

def eA : Ex := opE 2 (nameE [97]) (opE 2 (nameE [98]) (nameE [99]))
def eB : Ex := opE 1 (nameE [97]) (opE 3 (nameE [98]) (nameE [99]))
theorem exprT_A : exprT eA = ([97, 32, 45, 32, 40, 98, 32, 45, 32, 99, 41], 0) := by kernel_rfl
theorem exprT_B : exprT eB = ([97, 32, 43, 32, 98, 32, 42, 32, 99], 0) := by kernel_rfl
def sK : Sm := .mk 7 [] [] [] [] [] 0
def pA : Pg := ⟨[⟨[120], -3, 0⟩], [], [⟨[116], [], [sK], 0⟩]⟩
def pB : Pg := ⟨[], [⟨[105, 102], 0, 0⟩], []⟩
theorem pgRes_A : pgRes pA = ([115, 104, 97, 114, 101, 100, 32, 120, 32, 61, 32, 45, 51, 59, 10, 116, 104, 114, 101, 97, 100, 32, 116, 32, 123, 10, 32, 32, 115, 107, 105, 112, 59, 10, 125, 10], 0) := by kernel_rfl
theorem pgRes_B : pgRes pB = ([], 40) := by kernel_rfl
theorem len_A : (pgT pA).length ≤ 1099511627776 := by decide
theorem len_B : (pgT pB).length ≤ 1099511627776 := by decide
theorem nm_ok (s : List UInt8) : OkE (nameE s) := .mk (by simp [u8]) (by simp [u8]) (by simp [i64]) (by simp [i64]) (by simp) (fun j x h => by simp at h)
theorem op_ok {op : Int} {x y : Ex} (ho : u8 op) (hx : OkE x) (hy : OkE y) : OkE (opE op x y) := .mk (by simp [u8]) ho (by simp [i64]) (by simp [i64]) (by simp) (fun j z h => by
  match j, h with
  | 0, h => simp at h; subst h; exact hx
  | 1, h => simp at h; subst h; exact hy
  | j + 2, h => simp at h)
theorem eA_ok : OkE eA := op_ok (by simp [u8]) (nm_ok _) (op_ok (by simp [u8]) (nm_ok _) (nm_ok _))
theorem eB_ok : OkE eB := op_ok (by simp [u8]) (nm_ok _) (op_ok (by simp [u8]) (nm_ok _) (nm_ok _))
theorem sK_ok : OkS sK := .mk (by simp [u8]) (by simp [i64]) ⟨by simp, fun j x h => by simp at h⟩ (by simp) (fun j x h => by simp at h) (by simp) (fun j x h => by simp at h)
theorem pA_ok : OkP pA := by
 refine ⟨⟨by decide, fun j x h => ?_⟩, ⟨by decide, fun j x h => by simp [pA] at h⟩, ⟨by decide, fun j t h => ?_⟩⟩
 ·
  match j, h with
  | 0, h => simp [pA] at h; subst h; simp [i64]
  | j + 1, h => simp [pA] at h
 ·
  match j, h with
  | 0, h =>
   simp [pA] at h; subst h
   refine ⟨⟨by simp, fun j x h => by simp at h⟩, ⟨by simp, fun j x h => ?_⟩, by simp [i64]⟩
   match j, h with
   | 0, h => simp at h; subst h; exact sK_ok
   | j + 1, h => simp at h
  | j + 1, h => simp [pA] at h
theorem pB_ok : OkP pB := by
 refine ⟨⟨by decide, fun j x h => by simp [pB] at h⟩, ⟨by decide, fun j x h => ?_⟩, ⟨by decide, fun j t h => by simp [pB] at h⟩⟩
 match j, h with
 | 0, h => simp [pB] at h; subst h; simp [i64]
 | j + 1, h => simp [pB] at h
theorem smV_K (w : World) (S : Nat → Prop) : SmV w S sK (smL sK none none none 0 0 0) := .mk (fun _ => []) (fun _ => []) ⟨fun _ => [], .inl rfl, fun j x h => by simp at h⟩ (.inl rfl) (fun j x h => by simp at h) (.inl rfl) (fun j x h => by simp at h)

set_option maxHeartbeats 2000000 in
theorem begins_any (w : World) (hsg : Sig w) : Ret Tryd.prog 11 [] w fun v w' => v = .bool true ∧ Chg [] w w' := by
 refine ret_of [] func11 rfl ntmps11 rfl ?_
 have st := St.init w []
 obtain ⟨w0, rfl⟩ : ∃ w0, w0 = w := ⟨_, rfl⟩
 refine vc_seq (vc_region ?_)
 refine vc_y rfl rfl (y_as rfl) ?_
 refine vc_end (vq_then (vc_keep [] trivial (vc_seq (vc_region ?_))))
 refine vc_e (e_call [_] rfl rfl call30 rfl (name30_any _ _) ?_)
 rintro _ w ⟨rfl, cw⟩
 replace st := st.call0 cw
 refine vc_e (e_call [_] rfl rfl call30 rfl (name30_any _ _) ?_)
 rintro _ w ⟨rfl, cw⟩
 replace st := st.call0 cw
 refine vc_e (e_call [_] rfl rfl call30 rfl (name30_any _ _) ?_)
 rintro _ w ⟨rfl, cw⟩
 replace st := st.call0 cw
 refine vc_e (e_call [_, _, _] rfl rfl call29 rfl (binary_any 2 (nameE [98]) (nameE [99]) none none 0 0 _) ?_)
 rintro _ w ⟨d0, rfl, hd0, hh0, cw0⟩
 replace st := st.call0 cw0
 refine vc_e (e_call [_, _, _] rfl rfl call29 rfl (binary_any 2 (nameE [97]) (opE 2 (nameE [98]) (nameE [99])) none (some ⟨d0, 0, none⟩) 0 2 _) ?_)
 rintro _ w ⟨d1, rfl, hd1, hh1, cw1⟩
 replace st := st.call0 cw1
 refine vc_e (e_call [_] rfl rfl call28 rfl (exprT_any eA eA_ok _ _ (exV_two (op := 2) (x := nameE [97]) (y := opE 2 (nameE [98]) (nameE [99])) hh1 (Array.getElem?_eq_some_iff.1 hh1).1 (exV_name _ _ _) (exV_two (cw1.heap hh0 (by simp)) (Array.getElem?_eq_some_iff.1 (cw1.heap hh0 (by simp))).1 (exV_name _ _ _) (exV_name _ _ _))) (hsg.kept st.chg) (by decide)) ?_)
 rintro _ w ⟨rfl, cw⟩
 replace st := st.call0 cw
 rw [exprT_A]
 refine vc_y rfl rfl (y_mv rfl) ?_
 iterate 2 refine vc_y rfl rfl (y_ext rfl rfl) ?_
 iterate 2 refine vc_y rfl rfl (y_as rfl) ?_
 refine vc_end (vq_then (vc_keep [(1, _), (2, _)] ⟨rfl, rfl, trivial⟩ (vc_seq (vc_region ?_))))
 refine vc_e (e_call [_] rfl rfl call30 rfl (name30_any _ _) ?_)
 rintro _ w ⟨rfl, cw⟩
 replace st := st.call0 cw
 refine vc_e (e_call [_] rfl rfl call30 rfl (name30_any _ _) ?_)
 rintro _ w ⟨rfl, cw⟩
 replace st := st.call0 cw
 refine vc_e (e_call [_] rfl rfl call30 rfl (name30_any _ _) ?_)
 rintro _ w ⟨rfl, cw⟩
 replace st := st.call0 cw
 refine vc_e (e_call [_, _, _] rfl rfl call29 rfl (binary_any 3 (nameE [98]) (nameE [99]) none none 0 0 _) ?_)
 rintro _ w ⟨d2, rfl, hd2, hh2, cw2⟩
 replace st := st.call0 cw2
 refine vc_e (e_call [_, _, _] rfl rfl call29 rfl (binary_any 1 (nameE [97]) (opE 3 (nameE [98]) (nameE [99])) none (some ⟨d2, 0, none⟩) 0 2 _) ?_)
 rintro _ w ⟨d3, rfl, hd3, hh3, cw3⟩
 replace st := st.call0 cw3
 refine vc_e (e_call [_] rfl rfl call28 rfl (exprT_any eB eB_ok _ _ (exV_two (op := 1) (x := nameE [97]) (y := opE 3 (nameE [98]) (nameE [99])) hh3 (Array.getElem?_eq_some_iff.1 hh3).1 (exV_name _ _ _) (exV_two (cw3.heap hh2 (by simp)) (Array.getElem?_eq_some_iff.1 (cw3.heap hh2 (by simp))).1 (exV_name _ _ _) (exV_name _ _ _))) (hsg.kept st.chg) (by decide)) ?_)
 rintro _ w ⟨rfl, cw⟩
 replace st := st.call0 cw
 rw [exprT_B]
 refine vc_y rfl rfl (y_mv rfl) ?_
 iterate 2 refine vc_y rfl rfl (y_ext rfl rfl) ?_
 iterate 2 refine vc_y rfl rfl (y_as rfl) ?_
 refine vc_end (vq_then (vc_keep [(1, _), (2, _), (3, _), (4, _)] ⟨rfl, rfl, rfl, rfl, trivial⟩ (vc_seq (vc_region ?_))))
 refine vc_y rfl rfl (y_bld (.agg #[_, _, _]) [(0, _), (1, _)] rfl (fun w => by simp [Instr.build, go_sem] <;> repeat' constructor)) ?_
 refine vc_e (e_bs1 (l := [_, _, _]) st rfl rfl rfl rfl underlying22 sizeOf67 rfl rfl rfl zeroValue67 ?_)
 intro b27 w hb27 st
 refine vc_y rfl rfl (y_bld (.agg #[_, _, _, _, _, _, _]) [(0, _)] rfl (fun w => by simp [Instr.build, go_sem] <;> repeat' constructor)) ?_
 refine vc_e (e_bs1 (l := [_, _, _, _, _, _, _]) st rfl rfl rfl rfl underlying40 sizeOf70 rfl rfl rfl zeroValue70 ?_)
 intro b29 w hb29 st
 refine vc_y rfl rfl (y_bld (.agg #[_, _, _, _]) [(0, _), (2, _)] rfl (fun w => by simp [Instr.build, go_sem] <;> repeat' constructor)) ?_
 refine vc_e (e_bs1 (l := [_, _, _, _]) st rfl rfl rfl rfl underlying23 sizeOf42 rfl rfl rfl zeroValue42 ?_)
 intro b31 w hb31 st
 refine vc_y rfl rfl (y_bld (.agg #[_, _, _]) [(0, _), (2, _)] rfl (fun w => by simp [Instr.build, go_sem] <;> repeat' constructor)) ?_
 refine vc_e (e_call [_] rfl rfl call7 rfl (wprintP_any pA _ _ _ _ _ _ _ (rowC_one (st.res (i := 2) rfl) (Array.getElem?_eq_some_iff.1 (st.res (i := 2) rfl)).1 rfl rfl) (.inl rfl) ⟨fun _ => thL ⟨[116], [], [sK], 0⟩ none _ 0 _, rowC_one (st.res (i := 0) rfl) (Array.getElem?_eq_some_iff.1 (st.res (i := 0) rfl)).1 rfl rfl, fun j x hj => by
     match j, hj with
     | 0, hj => simp [pA] at hj; subst hj; exact ⟨none, 0, _, _, rfl, .inl rfl, fun _ => smL sK none none none 0 0 0, rowC_one (st.res (i := 1) rfl) (Array.getElem?_eq_some_iff.1 (st.res (i := 1) rfl)).1 rfl rfl, fun j x hj => by
         match j, hj with
         | 0, hj => simp at hj; subst hj; exact smV_K _ _
         | j + 1, hj => simp at hj⟩
     | j + 1, hj => simp [pA] at hj⟩ pA_ok (hsg.kept st.chg) (fun _ => len_A)) ?_)
 rintro _ w ⟨rfl, cw⟩
 replace st := st.call0 cw
 rw [pgRes_A]
 refine vc_y rfl rfl (y_mv rfl) ?_
 iterate 2 refine vc_y rfl rfl (y_ext rfl rfl) ?_
 iterate 2 refine vc_y rfl rfl (y_as rfl) ?_
 refine vc_end (vq_then (vc_keep [(1, _), (2, _), (3, _), (4, _), (5, _), (6, _)] ⟨rfl, rfl, rfl, rfl, rfl, rfl, trivial⟩ (vc_seq (vc_region ?_))))
 refine vc_y rfl rfl (y_mv rfl) ?_
 refine vc_y rfl rfl (y_eqi rfl rfl) ?_
 refine vc_e (e_mvb rfl rfl rfl ?_ ?_)
 ·
  intro hg38
  try simp only [dn] at hg38
  refine vc_y rfl rfl (y_mv rfl) ?_
  refine vc_y rfl rfl (y_eqs rfl rfl) ?_
  refine vc_y rfl rfl (y_pickt rfl rfl) ?_
  refine vc_e (e_mvb rfl rfl rfl ?_ ?_)
  ·
   intro hg42
   try simp only [dn] at hg42
   refine vc_y rfl rfl (y_mv rfl) ?_
   refine vc_y rfl rfl (y_eqi rfl rfl) ?_
   refine vc_y rfl rfl (y_pickt rfl rfl) ?_
   refine vc_e (e_mvb rfl rfl rfl ?_ ?_)
   ·
    intro hg46
    try simp only [dn] at hg46
    refine vc_y rfl rfl (y_mv rfl) ?_
    refine vc_y rfl rfl (y_eqs rfl rfl) ?_
    refine vc_y rfl rfl (y_pickt rfl rfl) ?_
    refine vc_e (e_mvb rfl rfl rfl ?_ ?_)
    ·
     intro hg50
     try simp only [dn] at hg50
     refine vc_y rfl rfl (y_mv rfl) ?_
     refine vc_y rfl rfl (y_eqi rfl rfl) ?_
     refine vc_y rfl rfl (y_pickt rfl rfl) ?_
     refine vc_e (e_mvb rfl rfl rfl ?_ ?_)
     ·
      intro hg54
      try simp only [dn] at hg54
      refine vc_y rfl rfl (y_mv rfl) ?_
      refine vc_y rfl rfl (y_eqs rfl rfl) ?_
      refine vc_y rfl rfl (y_pickt rfl rfl) ?_
      refine vc_e (e_mvb rfl rfl rfl ?_ ?_)
      ·
       intro hg58
       try simp only [dn] at hg58
       refine vc_y rfl rfl (y_bld (.agg #[_, _, _]) [(0, _)] rfl (fun w => by simp [Instr.build, go_sem] <;> repeat' constructor)) ?_
       refine vc_e (e_bs1 (l := [_, _, _]) st rfl rfl rfl rfl underlying22 sizeOf67 rfl rfl rfl zeroValue67 ?_)
       intro b60 w hb60 st
       refine vc_y rfl rfl (y_bld (.agg #[_, _, _]) [(1, _)] rfl (fun w => by simp [Instr.build, go_sem] <;> repeat' constructor)) ?_
       refine vc_e (e_call [_] rfl rfl call9 rfl (wcheckP_any pB _ _ _ _ _ _ _ (.inl rfl) (rowC_one (st.res (i := 0) rfl) (Array.getElem?_eq_some_iff.1 (st.res (i := 0) rfl)).1 rfl rfl) ⟨fun _ => [], .inl rfl, fun j x hj => by simp [pB] at hj⟩ pB_ok (hsg.kept st.chg) (fun _ => len_B)) ?_)
       rintro _ w ⟨rfl, cw⟩
       replace st := st.call0 cw
       rw [pgRes_B]
       refine vc_y rfl rfl (y_eqi rfl rfl) ?_
       refine vc_y rfl rfl (y_pickt rfl rfl) ?_
       refine vc_y rfl rfl (y_as rfl) ?_
       refine vc_end (vq_then (vc_keep [(0, _)] ⟨rfl, trivial⟩ (vc_ret ?_)))
       refine vq_ret1 st (.inl rfl) results11 (.tmp rfl) ?_
       refine ⟨_, rfl, ?_⟩
       first | exact ⟨rfl, st.chg⟩ | (exfalso; simp_all; done)
      ·
       intro hg58
       try simp only [dn] at hg58
       iterate 5 refine vc_e (e_skip rfl rfl ?_)
       refine vc_y rfl rfl (y_pickf rfl rfl) ?_
       refine vc_y rfl rfl (y_as rfl) ?_
       refine vc_end (vq_then (vc_keep [(0, _)] ⟨rfl, trivial⟩ (vc_ret ?_)))
       refine vq_ret1 st (.inl rfl) results11 (.tmp rfl) ?_
       refine ⟨_, rfl, ?_⟩
       first | exact ⟨rfl, st.chg⟩ | (exfalso; simp_all; done)
     ·
      intro hg54
      try simp only [dn] at hg54
      iterate 2 refine vc_e (e_skip rfl rfl ?_)
      refine vc_y rfl rfl (y_pickf rfl rfl) ?_
      refine vc_y rfl rfl (y_mv rfl) ?_
      iterate 5 refine vc_e (e_skip rfl rfl ?_)
      refine vc_y rfl rfl (y_pickf rfl rfl) ?_
      refine vc_y rfl rfl (y_as rfl) ?_
      refine vc_end (vq_then (vc_keep [(0, _)] ⟨rfl, trivial⟩ (vc_ret ?_)))
      refine vq_ret1 st (.inl rfl) results11 (.tmp rfl) ?_
      refine ⟨_, rfl, ?_⟩
      first | exact ⟨rfl, st.chg⟩ | (exfalso; simp_all; done)
    ·
     intro hg50
     try simp only [dn] at hg50
     iterate 2 refine vc_e (e_skip rfl rfl ?_)
     refine vc_y rfl rfl (y_pickf rfl rfl) ?_
     refine vc_y rfl rfl (y_mv rfl) ?_
     iterate 2 refine vc_e (e_skip rfl rfl ?_)
     refine vc_y rfl rfl (y_pickf rfl rfl) ?_
     refine vc_y rfl rfl (y_mv rfl) ?_
     iterate 5 refine vc_e (e_skip rfl rfl ?_)
     refine vc_y rfl rfl (y_pickf rfl rfl) ?_
     refine vc_y rfl rfl (y_as rfl) ?_
     refine vc_end (vq_then (vc_keep [(0, _)] ⟨rfl, trivial⟩ (vc_ret ?_)))
     refine vq_ret1 st (.inl rfl) results11 (.tmp rfl) ?_
     refine ⟨_, rfl, ?_⟩
     first | exact ⟨rfl, st.chg⟩ | (exfalso; simp_all; done)
   ·
    intro hg46
    try simp only [dn] at hg46
    iterate 2 refine vc_e (e_skip rfl rfl ?_)
    refine vc_y rfl rfl (y_pickf rfl rfl) ?_
    refine vc_y rfl rfl (y_mv rfl) ?_
    iterate 2 refine vc_e (e_skip rfl rfl ?_)
    refine vc_y rfl rfl (y_pickf rfl rfl) ?_
    refine vc_y rfl rfl (y_mv rfl) ?_
    iterate 2 refine vc_e (e_skip rfl rfl ?_)
    refine vc_y rfl rfl (y_pickf rfl rfl) ?_
    refine vc_y rfl rfl (y_mv rfl) ?_
    iterate 5 refine vc_e (e_skip rfl rfl ?_)
    refine vc_y rfl rfl (y_pickf rfl rfl) ?_
    refine vc_y rfl rfl (y_as rfl) ?_
    refine vc_end (vq_then (vc_keep [(0, _)] ⟨rfl, trivial⟩ (vc_ret ?_)))
    refine vq_ret1 st (.inl rfl) results11 (.tmp rfl) ?_
    refine ⟨_, rfl, ?_⟩
    first | exact ⟨rfl, st.chg⟩ | (exfalso; simp_all; done)
  ·
   intro hg42
   try simp only [dn] at hg42
   iterate 2 refine vc_e (e_skip rfl rfl ?_)
   refine vc_y rfl rfl (y_pickf rfl rfl) ?_
   refine vc_y rfl rfl (y_mv rfl) ?_
   iterate 2 refine vc_e (e_skip rfl rfl ?_)
   refine vc_y rfl rfl (y_pickf rfl rfl) ?_
   refine vc_y rfl rfl (y_mv rfl) ?_
   iterate 2 refine vc_e (e_skip rfl rfl ?_)
   refine vc_y rfl rfl (y_pickf rfl rfl) ?_
   refine vc_y rfl rfl (y_mv rfl) ?_
   iterate 2 refine vc_e (e_skip rfl rfl ?_)
   refine vc_y rfl rfl (y_pickf rfl rfl) ?_
   refine vc_y rfl rfl (y_mv rfl) ?_
   iterate 5 refine vc_e (e_skip rfl rfl ?_)
   refine vc_y rfl rfl (y_pickf rfl rfl) ?_
   refine vc_y rfl rfl (y_as rfl) ?_
   refine vc_end (vq_then (vc_keep [(0, _)] ⟨rfl, trivial⟩ (vc_ret ?_)))
   refine vq_ret1 st (.inl rfl) results11 (.tmp rfl) ?_
   refine ⟨_, rfl, ?_⟩
   first | exact ⟨rfl, st.chg⟩ | (exfalso; simp_all; done)
 ·
  intro hg38
  try simp only [dn] at hg38
  iterate 2 refine vc_e (e_skip rfl rfl ?_)
  refine vc_y rfl rfl (y_pickf rfl rfl) ?_
  refine vc_y rfl rfl (y_mv rfl) ?_
  iterate 2 refine vc_e (e_skip rfl rfl ?_)
  refine vc_y rfl rfl (y_pickf rfl rfl) ?_
  refine vc_y rfl rfl (y_mv rfl) ?_
  iterate 2 refine vc_e (e_skip rfl rfl ?_)
  refine vc_y rfl rfl (y_pickf rfl rfl) ?_
  refine vc_y rfl rfl (y_mv rfl) ?_
  iterate 2 refine vc_e (e_skip rfl rfl ?_)
  refine vc_y rfl rfl (y_pickf rfl rfl) ?_
  refine vc_y rfl rfl (y_mv rfl) ?_
  iterate 2 refine vc_e (e_skip rfl rfl ?_)
  refine vc_y rfl rfl (y_pickf rfl rfl) ?_
  refine vc_y rfl rfl (y_mv rfl) ?_
  iterate 5 refine vc_e (e_skip rfl rfl ?_)
  refine vc_y rfl rfl (y_pickf rfl rfl) ?_
  refine vc_y rfl rfl (y_as rfl) ?_
  refine vc_end (vq_then (vc_keep [(0, _)] ⟨rfl, trivial⟩ (vc_ret ?_)))
  refine vq_ret1 st (.inl rfl) results11 (.tmp rfl) ?_
  refine ⟨_, rfl, ?_⟩
  first | exact ⟨rfl, st.chg⟩ | (exfalso; simp_all; done)

end
end Go.Proofs.YtnmhlpnapgojjaaDoor

namespace Go.Proofs.YtnmhlpnapgojjaaDoor
open Go.RowKit Sx LexS _root_.Go.Proofs.Tryd
set_option linter.unusedVariables false
set_option linter.unusedSimpArgs false
theorem PgQ.rows {w : World} {p : Pg} {gs gl gt : Option Addr} {gcs gcl gct : Nat} {S : List Nat} (h : PgQ w p (pgL p gs gl gt gcs gcl gct) S) : DcRow w (· < w.heap.size) gs p.shared ∧ DcRow w (· < w.heap.size) gl p.locks ∧ ThRow w (· < w.heap.size) gt p.threads := by
 obtain ⟨os, cs, ol, cl, ot, ct, e, h1, h2, h3⟩ := PgS.toV h (T := (· < w.heap.size)) (fun b hb => PgS.lt h b hb)
 simp only [List.cons.injEq, Value.slice.injEq, and_true, true_and] at e
 obtain ⟨⟨rfl, -⟩, ⟨rfl, -⟩, rfl, -⟩ := e
 exact ⟨h1, h2, h3⟩

set_option maxHeartbeats 2000000 in
theorem lawPrettyPrints (p : Pg) (os ol ot : Option Addr) (cs cl ct : Nat) (w : World) (hSh : DcRow w (· < w.heap.size) os p.shared) (hL : DcRow w (· < w.heap.size) ol p.locks) (hT : ThRow w (· < w.heap.size) ot p.threads) (hok : OkP p) (hsg : Sig w) (hlen : pgOk p = true → (pgT p).length ≤ 1099511627776) :
    Ret Tryd.prog 3 [.agg (pgL p os ol ot cs cl ct).toArray] w fun v w' => v = .bool true ∧ Chg [] w w' := by
 refine ret_of [_] func3 rfl ntmps3 rfl ?_
 have st := St.init w []
 obtain ⟨w0, rfl⟩ : ∃ w0, w0 = w := ⟨_, rfl⟩
 refine vc_seq (vc_region ?_)
 refine vc_e (e_bx (l := [_, _, _]) st rfl rfl rfl rfl ?_)
 intro b1 w hb1 st
 refine vc_y rfl rfl (y_as rfl) ?_
 refine vc_end (vq_then (vc_keep [(1, _)] ⟨rfl, trivial⟩ (vc_seq (vc_region ?_))))
 refine vc_y rfl rfl ((by exact y_lda (vs := [_, _, _]) st 0 rfl isAgg25 sizeOf25 rfl rfl)) ?_
 refine vc_e (e_call [_] rfl rfl call6 rfl (rcopyP_any p hok _ _ _ _ _ _ _ (RowC.kept hSh (Same.of_nil st.chg)) (RowC.kept hL (Same.of_nil st.chg)) (hT.kept (Same.of_nil st.chg)) st.chg.size) ?_)
 rintro _ w ⟨l, Sg, rfl, hQ, hN, cw⟩
 have hQ2 := hQ
 obtain ⟨gs, gcs, gl, gcl, gt, gct, Sa, Sb, Sc, rfl, -⟩ := hQ2
 replace st := St.pushR (r := .tree Sg (fun w => PgQ w p (pgL p gs gl gt gcs gcl gct) Sg)) st cw (holds_of hQ hQ.lt (fun a b h hk => h.kept hk)) hN.2
 refine vc_e (e_al (l := [_, _, _]) st rfl rfl zeroValue25 rfl ?_)
 intro b3 w hb3 st
 refine vc_e (e_sts (vs := [_, _, _]) st 0 rfl rfl rfl rfl rfl sizeOf25 rfl rfl (by first | (right; assumption) | (left; simp)) ?_)
 intro w st; dsimp only [setNth, wr] at st
 refine vc_end (vq_then (vc_keep [(1, _), (3, _)] ⟨rfl, rfl, trivial⟩ (vc_seq (vc_region ?_))))
 refine vc_y rfl rfl ((by exact y_lda (vs := [_, _, _]) st 0 rfl isAgg25 sizeOf25 rfl rfl)) ?_
 refine vc_e (e_call [_] rfl rfl call7 rfl (wprintP_any p _ _ _ _ _ _ _ (PgQ.rows (st.res (i := 1) rfl).1).1 (PgQ.rows (st.res (i := 1) rfl).1).2.1 (PgQ.rows (st.res (i := 1) rfl).1).2.2 hok (hsg.kept st.chg) hlen) ?_)
 rintro _ w ⟨rfl, cw⟩
 replace st := st.call0 cw
 refine vc_y rfl rfl (y_mv rfl) ?_
 iterate 2 refine vc_y rfl rfl (y_ext rfl rfl) ?_
 iterate 2 refine vc_y rfl rfl (y_as rfl) ?_
 refine vc_end (vq_then (vc_keep [(1, _), (3, _), (4, _), (5, _)] ⟨rfl, rfl, rfl, rfl, trivial⟩ (vc_seq (vc_region ?_))))
 refine vc_y rfl rfl ((by exact y_lda (vs := [_, _, _]) st 2 rfl isAgg25 sizeOf25 rfl rfl)) ?_
 refine vc_e (e_call [_] rfl rfl call8 rfl (rprintP_any p _ _ _ _ _ _ _ (RowC.mono (RowC.kept hSh (Same.of_nil st.chg)) (fun b hb => Nat.lt_of_lt_of_le hb st.chg.size)) (RowC.mono (RowC.kept hL (Same.of_nil st.chg)) (fun b hb => Nat.lt_of_lt_of_le hb st.chg.size)) ((hT.kept (Same.of_nil st.chg)).mono (fun b hb => Nat.lt_of_lt_of_le hb st.chg.size)) hok) ?_)
 rintro _ w ⟨rfl, cw⟩
 replace st := st.call0 cw
 refine vc_y rfl rfl (y_mv rfl) ?_
 iterate 2 refine vc_y rfl rfl (y_ext rfl rfl) ?_
 iterate 2 refine vc_y rfl rfl (y_as rfl) ?_
 refine vc_end (vq_then (vc_keep [(1, _), (3, _), (4, _), (5, _), (6, _), (7, _)] ⟨rfl, rfl, rfl, rfl, rfl, rfl, trivial⟩ (vc_seq (vc_region ?_))))
 iterate 2 refine vc_y rfl rfl (y_mv rfl) ?_
 refine vc_y rfl rfl (y_eqs rfl rfl) ?_
 refine vc_e (e_mvb rfl rfl rfl ?_ ?_)
 ·
  intro hg23
  try simp only [dn] at hg23
  iterate 2 refine vc_y rfl rfl (y_mv rfl) ?_
  refine vc_y rfl rfl (y_eqi rfl rfl) ?_
  refine vc_y rfl rfl (y_pickt rfl rfl) ?_
  refine vc_e (e_mvb rfl rfl rfl ?_ ?_)
  ·
   intro hg28
   try simp only [dn] at hg28
   refine vc_y rfl rfl ((by exact y_lda (vs := [_, _, _]) st 2 rfl isAgg25 sizeOf25 rfl rfl)) ?_
   refine vc_e (e_call [_] rfl rfl call9 rfl (wcheckP_any p _ _ _ _ _ _ _ (RowC.mono (RowC.kept hSh (Same.of_nil st.chg)) (fun b hb => Nat.lt_of_lt_of_le hb st.chg.size)) (RowC.mono (RowC.kept hL (Same.of_nil st.chg)) (fun b hb => Nat.lt_of_lt_of_le hb st.chg.size)) ((hT.kept (Same.of_nil st.chg)).mono (fun b hb => Nat.lt_of_lt_of_le hb st.chg.size)) hok (hsg.kept st.chg) hlen) ?_)
   rintro _ w ⟨rfl, cw⟩
   replace st := st.call0 cw
   refine vc_y rfl rfl (y_mv rfl) ?_
   refine vc_y rfl rfl (y_eqi rfl rfl) ?_
   refine vc_y rfl rfl (y_pickt rfl rfl) ?_
   refine vc_e (e_mvb rfl rfl rfl ?_ ?_)
   ·
    intro hg34
    try simp only [dn] at hg34
    refine vc_y rfl rfl ((by exact y_lda (vs := [_, _, _]) st 0 rfl isAgg25 sizeOf25 rfl rfl)) ?_
    refine vc_y rfl rfl ((by exact y_lda (vs := [_, _, _]) st 2 rfl isAgg25 sizeOf25 rfl rfl)) ?_
    refine vc_e (e_call [_, _] rfl rfl call10 rfl (rexactly_any p p hok _ _ _ _ _ _ _ _ _ _ _ _ _ (PgQ.rows (st.res (i := 1) rfl).1).1 (PgQ.rows (st.res (i := 1) rfl).1).2.1 (PgQ.rows (st.res (i := 1) rfl).1).2.2 (RowC.mono (RowC.kept hSh (Same.of_nil st.chg)) (fun b hb => Nat.lt_of_lt_of_le hb st.chg.size)) (RowC.mono (RowC.kept hL (Same.of_nil st.chg)) (fun b hb => Nat.lt_of_lt_of_le hb st.chg.size)) ((hT.kept (Same.of_nil st.chg)).mono (fun b hb => Nat.lt_of_lt_of_le hb st.chg.size))) ?_)
    rintro _ w ⟨rfl, cw⟩
    replace st := st.call0 cw
    rw [exactP_refl]
    refine vc_y rfl rfl (y_pickt rfl rfl) ?_
    refine vc_e (e_mvb rfl rfl rfl ?_ ?_)
    ·
     intro hg39
     try simp only [dn] at hg39
     refine vc_e (e_call [] rfl rfl call11 rfl (begins_any _ (hsg.kept st.chg)) ?_)
     rintro _ w ⟨rfl, cw⟩
     replace st := st.call0 cw
     refine vc_y rfl rfl (y_pickt rfl rfl) ?_
     refine vc_y rfl rfl (y_as rfl) ?_
     refine vc_end (vq_then (vc_keep [(2, _)] ⟨rfl, trivial⟩ (vc_ret ?_)))
     refine vq_ret1 st (.inl rfl) results3 (.tmp rfl) ?_
     refine ⟨_, rfl, ?_⟩
     first | exact ⟨rfl, st.chg⟩ | (exfalso; simp_all; done)
    ·
     intro hg39
     exfalso; revert hg39; simp; try omega
   ·
    intro hg34
    try simp only [dn] at hg34
    iterate 3 refine vc_e (e_skip rfl rfl ?_)
    refine vc_y rfl rfl (y_pickf rfl rfl) ?_
    refine vc_y rfl rfl (y_mv rfl) ?_
    refine vc_e (e_skip rfl rfl ?_)
    refine vc_y rfl rfl (y_pickf rfl rfl) ?_
    refine vc_y rfl rfl (y_as rfl) ?_
    refine vc_end (vq_then (vc_keep [(2, _)] ⟨rfl, trivial⟩ (vc_ret ?_)))
    refine vq_ret1 st (.inl rfl) results3 (.tmp rfl) ?_
    refine ⟨_, rfl, ?_⟩
    first | exact ⟨rfl, st.chg⟩ | (exfalso; simp_all; done)
  ·
   intro hg28
   try simp only [dn] at hg28
   iterate 4 refine vc_e (e_skip rfl rfl ?_)
   refine vc_y rfl rfl (y_pickf rfl rfl) ?_
   refine vc_y rfl rfl (y_mv rfl) ?_
   iterate 3 refine vc_e (e_skip rfl rfl ?_)
   refine vc_y rfl rfl (y_pickf rfl rfl) ?_
   refine vc_y rfl rfl (y_mv rfl) ?_
   refine vc_e (e_skip rfl rfl ?_)
   refine vc_y rfl rfl (y_pickf rfl rfl) ?_
   refine vc_y rfl rfl (y_as rfl) ?_
   refine vc_end (vq_then (vc_keep [(2, _)] ⟨rfl, trivial⟩ (vc_ret ?_)))
   refine vq_ret1 st (.inl rfl) results3 (.tmp rfl) ?_
   refine ⟨_, rfl, ?_⟩
   first | exact ⟨rfl, st.chg⟩ | (exfalso; simp_all; done)
 ·
  intro hg23
  try simp only [dn] at hg23
  iterate 3 refine vc_e (e_skip rfl rfl ?_)
  refine vc_y rfl rfl (y_pickf rfl rfl) ?_
  refine vc_y rfl rfl (y_mv rfl) ?_
  iterate 4 refine vc_e (e_skip rfl rfl ?_)
  refine vc_y rfl rfl (y_pickf rfl rfl) ?_
  refine vc_y rfl rfl (y_mv rfl) ?_
  iterate 3 refine vc_e (e_skip rfl rfl ?_)
  refine vc_y rfl rfl (y_pickf rfl rfl) ?_
  refine vc_y rfl rfl (y_mv rfl) ?_
  refine vc_e (e_skip rfl rfl ?_)
  refine vc_y rfl rfl (y_pickf rfl rfl) ?_
  refine vc_y rfl rfl (y_as rfl) ?_
  refine vc_end (vq_then (vc_keep [(2, _)] ⟨rfl, trivial⟩ (vc_ret ?_)))
  refine vq_ret1 st (.inl rfl) results3 (.tmp rfl) ?_
  refine ⟨_, rfl, ?_⟩
  first | exact ⟨rfl, st.chg⟩ | (exfalso; simp_all; done)

end Go.Proofs.YtnmhlpnapgojjaaDoor

/- How long a tree's text is: no program in sight. -/
namespace LexS
open Sx
set_option linter.unusedVariables false
set_option linter.unusedSimpArgs false
theorem shw_len20 (x : Int) (hx : i64 x) : (shw x).length ≤ 20 := by
  have h : (dec x.natAbs).length ≤ 19 := dec_len 18 _ (by have := hx.1; have := hx.2; omega)
  unfold shw
  split <;> simp <;> omega
theorem par_len (b : Bool) (l : List UInt8) : (par b l).length ≤ l.length + 2 := by
  unfold par
  split <;> simp
theorem txtE_len : ∀ (n : Nat) (e : Ex), SizeOf.sizeOf e = n → OkE e → (txtE e).length ≤ 30 * szE e := by
  intro n
  refine Nat.strongRecOn n fun n ih e hn hok => ?_
  subst hn
  cases e with
  | mk k op wd nm kids a =>
    have hw := shw_len20 wd hok.wd
    have ho := shwO_len op
    have hkid : ∀ (j : Nat) x, kids[j]? = some x → (txtE x).length ≤ 30 * szE x := fun j x hx => ih _ (by have := List.sizeOf_lt_of_mem (List.mem_of_getElem? hx); simp; omega) x rfl (hok.kid (j := j) hx)
    rcases kids with _ | ⟨x, _ | ⟨y, _ | ⟨z, r⟩⟩⟩
    · simp only [txtE, szE, szEs]
      split
      · omega
      · split
        · omega
        · split <;> simp; omega
    · have h1 := hkid 0 x rfl
      have h2 := par_len (decide (x.k = 4)) (txtE x)
      simp only [txtE, szE, szEs]
      split
      · omega
      · split
        · omega
        · split
          · simp only [List.length_append]; omega
          · simp
    · have h1 := hkid 0 x rfl
      have h2 := par_len (inn op x false) (txtE x)
      have h3 := hkid 1 y rfl
      have h4 := par_len (inn op y true) (txtE y)
      simp only [txtE, szE, szEs]
      split
      · omega
      · split
        · omega
        · split
          · simp; omega
          · simp only [List.length_append, List.length_cons, List.length_nil]; omega
    · simp only [txtE, szE, szEs]
      split
      · omega
      · split
        · omega
        · split <;> simp; omega
theorem txX_len (l : List Ex) (h : OkEs l) : (txX l).length ≤ 30 * szEs l := by
  cases l with
  | nil => simp [txX]
  | cons x r => have := txtE_len _ x rfl (h.2 0 x rfl); simp only [txX, szEs]; omega
theorem mar_len' (d : Nat) : (mar d).length = 2 * d := by simp [mar]
theorem txtSs_len_of {l : List Sm} {d : Nat} (h : ∀ s ∈ l, rightS s d = true → (txtS s d).length ≤ 600 * szS s) (hr : rightSs l d = true) : (txtSs l d).length ≤ 600 * szSs l := by
  induction l with
  | nil => simp [txtSs]
  | cons s r ih =>
    simp only [rightSs, Bool.and_eq_true] at hr
    have h1 := h s (by simp) hr.1
    have h2 := ih (fun x hx => h x (.tail _ hx)) hr.2
    simp only [txtSs, szSs, List.length_append]; omega
theorem txtS_len : ∀ (n : Nat) (s : Sm), SizeOf.sizeOf s = n → OkS s → ∀ d, d ≤ 64 → rightS s d = true → (txtS s d).length ≤ 600 * szS s := by
  intro n
  refine Nat.strongRecOn n fun n ih s hn hok d hd hr => ?_
  subst hn
  cases s with
  | mk k nm other e body els a =>
    have hx := txX_len e hok.e
    rw [rightS] at hr
    simp only [Bool.and_eq_true, Bool.or_eq_true, decide_eq_true_eq, Bool.not_eq_true', Bool.or_eq_false_iff, decide_eq_false_iff_not] at hr
    obtain ⟨⟨⟨⟨⟨⟨⟨⟨h1, h2⟩, h3⟩, h4⟩, h5⟩, h6⟩, h7⟩, h8⟩, h9⟩ := hr
    have hm := mar_len' d
    have hb : d < 64 ∨ (body = [] ∧ els = []) := by
      rcases h7 with ⟨q1, q2⟩ | h
      · right
        refine ⟨?_, List.eq_nil_of_length_eq_zero (by omega)⟩
        rcases h5 with h | h
        · rw [q1] at h; cases h
        · exact List.eq_nil_of_length_eq_zero h
      · exact .inl h
    have hB : (txtSs body (d + 1)).length ≤ 600 * szSs body := by
      rcases hb with h | ⟨rfl, -⟩
      · refine txtSs_len_of (fun s hs hr => ?_) h8
        obtain ⟨j, hj⟩ := List.mem_iff_getElem?.1 hs
        exact ih _ (by have := List.sizeOf_lt_of_mem hs; simp; omega) s rfl (hok.body.2 j s hj) (d + 1) (by omega) hr
      · simp [txtSs]
    have hL : (txtSs els (d + 1)).length ≤ 600 * szSs els := by
      rcases hb with h | ⟨-, rfl⟩
      · refine txtSs_len_of (fun s hs hr => ?_) h9
        obtain ⟨j, hj⟩ := List.mem_iff_getElem?.1 hs
        exact ih _ (by have := List.sizeOf_lt_of_mem hs; simp; omega) s rfl (hok.els.2 j s hj) (d + 1) (by omega) hr
      · simp [txtSs]
    rw [txtS, szS]
    split
    · simp only [List.length_append, List.length_cons, List.length_nil]; omega
    · split
      · simp only [List.length_append, List.length_cons, List.length_nil]; omega
      · split
        · simp only [List.length_append, List.length_cons, List.length_nil]; omega
        · split
          · simp only [List.length_append, List.length_cons, List.length_nil]; omega
          · split
            · simp only [List.length_append, List.length_cons, List.length_nil]; omega
            · have hw : (if k = 4 then [119, 104, 105, 108, 101, 32, 40] else [105, 102, 32, 40] : List UInt8).length ≤ 7 := by split <;> simp
              have hz : (if 0 < els.length then mar d ++ [125, 32, 101, 108, 115, 101, 32, 123, 10] ++ txtSs els (d + 1) else [] : List UInt8).length ≤ 2 * d + 9 + 600 * szSs els := by
                split
                · simp only [List.length_append, List.length_cons, List.length_nil]; omega
                · simp
              rw [List.length_append, List.length_append, List.length_append, List.length_append, List.length_append, List.length_append, List.length_append]
              simp only [List.length_cons, List.length_nil]
              omega
theorem txtSs_len {l : List Sm} {d : Nat} (hok : OkSs l) (hd : d ≤ 64) (hr : rightSs l d = true) : (txtSs l d).length ≤ 600 * szSs l :=
  txtSs_len_of (fun s hs h => by
    obtain ⟨j, hj⟩ := List.mem_iff_getElem?.1 hs
    exact txtS_len _ s rfl (hok.2 j s hj) d hd h) hr
theorem joinC_len2 : ∀ (l : List Dc), (∀ x ∈ l, i64 x.wd) → (joinC (l.map dcT)).length ≤ 30 * szDs l
  | [], _ => by simp [joinC]
  | [x], h => by
    have := shw_len20 x.wd (h x (by simp))
    simp only [List.map_cons, List.map_nil, joinC, dcT, szDs]
    split <;> simp <;> omega
  | x :: y :: r, h => by
    have h0 := shw_len20 x.wd (h x (by simp))
    have ih := joinC_len2 (y :: r) (fun z hz => h z (.tail _ hz))
    simp only [List.map_cons, joinC, szDs, List.length_append, List.length_cons, List.length_nil] at ih ⊢
    have : (dcT x).length ≤ x.nm.length + 23 := by unfold dcT; split <;> simp <;> omega
    omega
theorem dcsT_len (word : List UInt8) (d : Nat) (l : List Dc) (h : OkD l) : (dcsT word d l).length ≤ 2 * d + word.length + 3 + 30 * szDs l := by
  have := joinC_len2 l (fun x hx => by obtain ⟨j, hj⟩ := List.mem_iff_getElem?.1 hx; exact (h.2 j x hj).1)
  unfold dcsT
  split
  · simp
  · simp only [List.length_append, List.length_cons, List.length_nil, mar_len']; omega
theorem thsT_len : ∀ (l : List Th), (∀ t ∈ l, OkD t.locals ∧ OkSs t.body) → (∀ t ∈ l, thOk t = true) → ((l.map thT).flatten).length ≤ 600 * szTs l
  | [], _, _ => by simp
  | t :: r, h, h2 => by
    obtain ⟨q1, q2⟩ := h t (by simp)
    have ih := thsT_len r (fun x hx => h x (.tail _ hx)) (fun x hx => h2 x (.tail _ hx))
    have h3 := h2 t (by simp)
    unfold thOk at h3
    simp only [Bool.and_eq_true] at h3
    have h4 := txtSs_len q2 (d := 1) (by omega) h3.2
    have h5 := dcsT_len [108, 111, 99, 97, 108] 1 t.locals q1
    simp only [List.map_cons, List.flatten_cons, List.length_append, szTs, thT, List.length_cons, List.length_nil] at h5 ih ⊢
    omega
theorem pgT_len (p : Pg) (hok : OkP p) (hp : pgOk p = true) : (pgT p).length ≤ 100 + 600 * szP p := by
  obtain ⟨h1, h2, h3⟩ := hok
  unfold pgOk at hp
  simp only [Bool.and_eq_true] at hp
  have a1 := dcsT_len [115, 104, 97, 114, 101, 100] 0 p.shared h1
  have a2 := dcsT_len [108, 111, 99, 107] 0 p.locks h2
  have a3 := thsT_len p.threads (fun t ht => by obtain ⟨j, hj⟩ := List.mem_iff_getElem?.1 ht; exact ⟨(h3.2 j t hj).1, (h3.2 j t hj).2.1⟩) (fun t ht => List.all_eq_true.1 hp.2 t ht)
  simp only [pgT, szP, List.length_append, List.length_cons, List.length_nil] at a1 a2 a3 ⊢
  omega
end LexS
