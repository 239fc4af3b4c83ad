/- A part of the proof: contracts of functions and plain laws; each theorem says its own conditions. -/
import Derived.Test.YtnmhlpnapgojjaaDoorK11
import Derived.Test.YtnmhlpnapgojjaaDoorK13
import Derived.Test.YtnmhlpnapgojjaaDoorK9
import Derived.Test.YtnmhlpnapgojjaaDoorK10
import Derived.Test.YtnmhlpnapgojjaaDoorK8
namespace Go.Proofs.YtnmhlpnapgojjaaDoor
open Go.RowKit Sx LexS
set_option linter.unusedVariables false
set_option linter.unusedSimpArgs false
section
variable {n0 : Nat}

set_option maxHeartbeats 1000000 in
theorem pcopyE_any : ∀ (n : Nat) (es : List Ex), szo es = n → OkEs es → ∀ (oa : Option Addr) (cap : Nat) (w : World), ExRow w (· < n0) oa es → n0 ≤ w.heap.size →
    Ret Tryd.prog 121 [.slice oa es.length cap] w fun v w' => ∃ oq cq Sq, v = .slice oq es.length cq ∧ ExRQ w' oq cq es Sq ∧ Nw w.heap.size Sq ∧ Chg [] w w' := by
  intro n
  refine Nat.strongRecOn n fun n ih => ?_
  intro es hn hok oa cap w hr hn0
  subst hn
  have hle := hok.1
  refine ret_of [_] Tryd.func121 rfl Tryd.ntmps121 rfl ?_
  have st := St.init w []
  obtain ⟨w0, rfl⟩ : ∃ w0, w0 = w := ⟨_, rfl⟩
  replace st := St.pushR (r := .tree [] (fun w => ExSs 63 w [] [] [])) st (Chg.refl _ _) (holds_of (by simp [ExSs]) (by simp) (fun a b h hk => h.kept hk)) (by simp [Res.at?])
  replace st := st.ownNil 63 6
  refine vc_seq ?_
  refine vc_region ?_
  refine vc_y rfl rfl (y_as rfl) ?_
  refine vc_end ?_
  refine vq_then ?_
  refine vc_keep [(0, _)] ⟨rfl, trivial⟩ ?_
  refine vc_seq ?_
  refine vc_region ?_
  refine vc_y rfl rfl (y_as rfl) ?_
  refine vc_end ?_
  refine vq_then ?_
  refine vc_keep [(0, _), (3, _)] ⟨rfl, rfl, trivial⟩ ?_
  refine vc_seq ?_
  refine vc_seq ?_
  refine vc_region ?_
  refine vc_y rfl rfl (y_mv rfl) ?_
  refine vc_y rfl rfl (y_lensl rfl Tryd.underlying61) ?_
  refine vc_y rfl rfl (y_mv rfl) ?_
  refine vc_end ?_
  refine vq_then ?_
  refine vc_keep [(3, _), (6, _), (7, _), (8, _)] ⟨rfl, rfl, rfl, rfl, trivial⟩ ?_
  refine vc_block ?_
  refine vc_loop (w0 := w0) (M := []) (fun (y : Nat × Option Addr × Nat × List Value × List Nat) => [(3, .slice y.2.1 y.1 y.2.2.1), (6, .slice oa es.length cap), (7, .int .i64 (es.length : Int)), (8, .int .i64 (y.1 : Int))]) (fun y => [.own (.slice y.2.1 y.1 y.2.2.1) 63 6 y.1 y.2.2.2.1, .tree y.2.2.2.2 (fun w => ExSs 63 w (es.take y.1) y.2.2.2.1 y.2.2.2.2)]) (fun y _ => y.1 ≤ es.length ∧ Nw w0.heap.size y.2.2.2.2) (fun y => es.length - y.1) (0, none, 0, [], []) ⟨rfl, rfl, rfl, rfl, trivial⟩ (by simpa using st) ⟨by simp, Nw.nil⟩ ?_
  clear st
  rintro ⟨j, oj, cj, xs, S⟩ w ⟨hj, hSS⟩ st
  dsimp only at *
  refine vc_seq ?_
  refine vc_region ?_
  refine vc_y rfl rfl (y_lss rfl rfl) ?_
  refine vc_end ?_
  refine vq_then ?_
  refine vc_keep [(3, _), (6, _), (7, _), (8, _), (9, _)] ⟨rfl, rfl, rfl, rfl, rfl, trivial⟩ ?_
  refine vc_seq ?_
  refine vc_ifs rfl ?_ ?_
  · intro hc9
    try simp only [dn] at hc9
    have stK := st
    obtain ⟨e, hej⟩ : ∃ e, es[j]? = some e := ⟨_, List.getElem?_eq_getElem (by omega)⟩
    obtain ⟨gb, go, rfl, hgS, hgl, hg⟩ := ExRow.at hr (by omega)
    obtain ⟨o0, c0, hV0, hr0, hc0⟩ := hg j e hej
    have hke := hok.2 j e hej
    have hz := mem_size hej
    have hz2 : szo e.kids < szo es := by have : szo e.kids < szo e := by cases e; exact ex_size
                                         omega
    have st := stK
    clear stK
    refine vc_code_skip ?_
    refine vq_then ?_
    refine vc_keep [(3, _), (6, _), (7, _), (8, _)] ⟨rfl, rfl, rfl, rfl, trivial⟩ ?_
    refine vc_seq ?_
    refine vc_block ?_
    refine vc_seq ?_
    refine vc_region ?_
    refine vc_y rfl rfl ((by exact y_ia (k := j) rfl rfl Tryd.underlying61 Tryd.sizeOf63 rfl (by omega))) ?_
    refine vc_y rfl rfl ((by exact y_ldca (exL e o0 c0) rfl Tryd.isAgg63 Tryd.sizeOf63 rfl (fun i v hi => st.chg.cell (hc0 i v hi) (by simp)))) ?_
    refine vc_e (e_al (l := [_, _, _, _, _, _]) st rfl rfl Tryd.zeroValue63 rfl ?_)
    intro b5 w hb5 st
    refine vc_e (e_sts (vs := [_, _, _, _, _, _]) st 0 rfl rfl rfl rfl rfl Tryd.sizeOf63 rfl rfl (by first | (right; assumption) | (left; simp)) ?_)
    intro w st; dsimp only [setNth, wr] at st
    refine vc_end ?_
    refine vq_then ?_
    refine vc_keep [(3, _), (5, _), (6, _), (7, _), (8, _)] ⟨rfl, rfl, rfl, rfl, rfl, trivial⟩ ?_
    refine vc_seq ?_
    refine vc_region ?_
    refine vc_y rfl rfl ((by exact y_faz (k := 4) rfl Tryd.underlying63 rfl rfl Tryd.sizeOf61 rfl)) ?_
    refine vc_y rfl rfl ((by exact y_ld st 0 rfl Tryd.isAgg61 rfl rfl)) ?_
    refine vc_e (e_call [_] rfl rfl Tryd.call121 rfl (ih _ hz2 e.kids rfl hke.kids _ _ _ (hr0.kept (Same.of_nil st.chg)) (Nat.le_trans hn0 st.chg.size)) ?_)
    rintro _ w ⟨oq, cq, Sq, rfl, hQ, hN, cw⟩
    have hN9 := hN.le st.chg.size
    replace st := St.pushR (r := .tree Sq (fun w => ExRQ w oq cq e.kids Sq)) st cw (holds_of hQ hQ.lt (fun a b h hk => h.kept hk)) hN.2
    refine vc_y rfl rfl ((by exact y_faz (k := 4) rfl Tryd.underlying63 rfl rfl Tryd.sizeOf61 rfl)) ?_
    refine vc_e (e_st st 1 rfl rfl rfl rfl Tryd.sizeOf61 rfl rfl (by first | (right; assumption) | (left; simp)) ?_)
    intro w st; dsimp only [setNth, wr] at st
    refine vc_end ?_
    refine vq_then ?_
    refine vc_keep [(3, _), (5, _), (6, _), (7, _), (8, _)] ⟨rfl, rfl, rfl, rfl, rfl, trivial⟩ ?_
    refine vc_region ?_
    refine vc_y rfl rfl (y_mv rfl) ?_
    refine vc_y rfl rfl ((by exact y_lda (vs := [_, _, _, _, _, _]) st 1 rfl Tryd.isAgg63 Tryd.sizeOf63 rfl rfl)) ?_
    refine vc_e (e_bs1 (l := [_, _, _, _, _, _]) st rfl rfl rfl rfl Tryd.underlying61 Tryd.sizeOf63 rfl rfl rfl Tryd.zeroValue63 ?_)
    intro b18 w hb18 st
    refine vc_e (e_app (bytes := 64) st 3 0 rfl rfl rfl rfl rfl rfl Tryd.underlying61 Tryd.info63 rfl rfl rfl rfl rfl (by simp) rfl rfl (by unfold maxLen; omega) (by omega) ?_)
    intro oaQ capQ w st; dsimp only [setNth] at st
    refine vc_y rfl rfl (y_as rfl) ?_
    refine vc_end ?_
    refine vq_block ?_
    refine vq_then ?_
    refine vc_keep [(3, _), (6, _), (7, _), (8, _)] ⟨rfl, rfl, rfl, rfl, trivial⟩ ?_
    refine vc_region ?_
    have hne : ∀ b ∈ S, b ∉ Sq := fun b hb => st.ne (i := 4) (j := 1) (by decide) rfl rfl b hb
    have stN := st.pick [4, 1, 3] rfl (by decide)
    have h1 := (stN.res (i := 0) rfl).1
    have h2 := (stN.res (i := 1) rfl).1
    have h3 : ExSs 63 w (es.take (j + 1)) (xs ++ exL e oq cq) (S ++ Sq) := by rw [take_snoc hej]; exact ExSs.snoc h1 (ExS_iff.2 ⟨oq, cq, rfl, h2⟩)
    replace stN := (stN.join (q := .tree (S ++ Sq) fun w => ExSs 63 w (es.take (j + 1)) (xs ++ exL e oq cq) (S ++ Sq)) (fun k hk => List.mem_append.1 hk) (holds_of h3 h3.lt (fun a b h hk => h.kept hk))).pick [1, 0] rfl (by decide)
    refine vc_y rfl rfl (y_add rfl rfl (by omega : _ = ((j + 1 : Nat) : Int)) (by omega) (by omega)) ?_
    refine vc_y rfl rfl (y_mv rfl) ?_
    refine vc_end ?_
    refine vq_again (j + 1, oaQ, capQ, xs ++ exL e oq cq, S ++ Sq)  ⟨rfl, rfl, rfl, rfl, trivial⟩ stN ?_ ?_
    · exact ⟨by dsimp only; omega, hSS.app hN9 hne⟩
    · dsimp only; omega
  · intro hc9
    try simp only [dn] at hc9
    refine vc_exit ?_
    refine vq_then_exit ?_
    refine vq_then_exit ?_
    refine vq_block_exit ?_
    refine vq_then ?_
    refine vc_keep [(3, _)] ⟨rfl, trivial⟩ ?_
    refine vc_seq ?_
    refine vc_region ?_
    refine vc_y rfl rfl (y_mv rfl) ?_
    refine vc_y rfl rfl (y_as rfl) ?_
    refine vc_end ?_
    refine vq_then ?_
    refine vc_keep [(2, _)] ⟨rfl, trivial⟩ ?_
    refine vc_ret ?_
    refine vq_ret1 st (.inl rfl) Tryd.results121 (.tmp rfl) ?_
    refine ⟨_, rfl, ?_⟩
    obtain rfl : j = es.length := by omega
    rw [List.take_length] at st
    obtain ⟨h1, h2⟩ := st.ownNw (i := 0) rfl
    have h3 := (st.res (i := 1) rfl).1
    exact ⟨oj, cj, obk oj ++ S, rfl, ⟨xs, S, h1, rfl, h3⟩, h2.app hSS (fun b hb => st.ne (i := 0) (j := 1) (by decide) rfl rfl b (by simpa [Res.at?, obk_own] using hb)), st.chg⟩

set_option maxHeartbeats 1000000 in
theorem pcopyS_any : ∀ (n : Nat) (es : List Sm), szo es = n → OkSs es → ∀ (oa : Option Addr) (cap : Nat) (w : World), SmRow w (· < n0) oa es → n0 ≤ w.heap.size →
    Ret Tryd.prog 98 [.slice oa es.length cap] w fun v w' => ∃ oq cq Sq, v = .slice oq es.length cq ∧ SmRQ w' oq cq es Sq ∧ Nw w.heap.size Sq ∧ Chg [] w w' := by
  intro n
  refine Nat.strongRecOn n fun n ih => ?_
  intro es hn hok oa cap w hr hn0
  subst hn
  have hle := hok.1
  refine ret_of [_] Tryd.func98 rfl Tryd.ntmps98 rfl ?_
  have st := St.init w []
  obtain ⟨w0, rfl⟩ : ∃ w0, w0 = w := ⟨_, rfl⟩
  replace st := St.pushR (r := .tree [] (fun w => SmSs 63 70 w [] [] [])) st (Chg.refl _ _) (holds_of (by simp [SmSs]) (by simp) (fun a b h hk => h.kept hk)) (by simp [Res.at?])
  replace st := st.ownNil 70 7
  refine vc_seq ?_
  refine vc_region ?_
  refine vc_y rfl rfl (y_as rfl) ?_
  refine vc_end ?_
  refine vq_then ?_
  refine vc_keep [(0, _)] ⟨rfl, trivial⟩ ?_
  refine vc_seq ?_
  refine vc_region ?_
  refine vc_y rfl rfl (y_as rfl) ?_
  refine vc_end ?_
  refine vq_then ?_
  refine vc_keep [(0, _), (3, _)] ⟨rfl, rfl, trivial⟩ ?_
  refine vc_seq ?_
  refine vc_seq ?_
  refine vc_region ?_
  refine vc_y rfl rfl (y_mv rfl) ?_
  refine vc_y rfl rfl (y_lensl rfl Tryd.underlying40) ?_
  refine vc_y rfl rfl (y_mv rfl) ?_
  refine vc_end ?_
  refine vq_then ?_
  refine vc_keep [(3, _), (6, _), (7, _), (8, _)] ⟨rfl, rfl, rfl, rfl, trivial⟩ ?_
  refine vc_block ?_
  refine vc_loop (w0 := w0) (M := []) (fun (y : Nat × Option Addr × Nat × List Value × List Nat) => [(3, .slice y.2.1 y.1 y.2.2.1), (6, .slice oa es.length cap), (7, .int .i64 (es.length : Int)), (8, .int .i64 (y.1 : Int))]) (fun y => [.own (.slice y.2.1 y.1 y.2.2.1) 70 7 y.1 y.2.2.2.1, .tree y.2.2.2.2 (fun w => SmSs 63 70 w (es.take y.1) y.2.2.2.1 y.2.2.2.2)]) (fun y _ => y.1 ≤ es.length ∧ Nw w0.heap.size y.2.2.2.2) (fun y => es.length - y.1) (0, none, 0, [], []) ⟨rfl, rfl, rfl, rfl, trivial⟩ (by simpa using st) ⟨by simp, Nw.nil⟩ ?_
  clear st
  rintro ⟨j, oj, cj, xs, S⟩ w ⟨hj, hSS⟩ st
  dsimp only at *
  refine vc_seq ?_
  refine vc_region ?_
  refine vc_y rfl rfl (y_lss rfl rfl) ?_
  refine vc_end ?_
  refine vq_then ?_
  refine vc_keep [(3, _), (6, _), (7, _), (8, _), (9, _)] ⟨rfl, rfl, rfl, rfl, rfl, trivial⟩ ?_
  refine vc_seq ?_
  refine vc_ifs rfl ?_ ?_
  · intro hc9
    try simp only [dn] at hc9
    have stK := st
    obtain ⟨s, hsj⟩ : ∃ s, es[j]? = some s := ⟨_, List.getElem?_eq_getElem (by omega)⟩
    obtain ⟨gb, go, rfl, hgS, hgl, hg⟩ := SmRow.at hr (by omega)
    obtain ⟨oe, ob, ol, ce, cb, cl, hsV, hse, hsb, hsl, hc⟩ := hg j s hsj
    have hks := hok.2 j s hsj
    have hz := mem_size hsj
    have hB : szo s.body < szo es := by have : szo s.body < szo s := by cases s; exact sm_size.1
                                        omega
    have hL : szo s.els < szo es := by have : szo s.els < szo s := by cases s; exact sm_size.2
                                       omega
    have st := stK
    clear stK
    refine vc_code_skip ?_
    refine vq_then ?_
    refine vc_keep [(3, _), (6, _), (7, _), (8, _)] ⟨rfl, rfl, rfl, rfl, trivial⟩ ?_
    refine vc_seq ?_
    refine vc_block ?_
    refine vc_seq ?_
    refine vc_region ?_
    refine vc_y rfl rfl ((by exact y_ia (k := j) rfl rfl Tryd.underlying40 Tryd.sizeOf70 rfl (by omega))) ?_
    refine vc_y rfl rfl ((by exact y_ldca (smL s oe ob ol ce cb cl) rfl Tryd.isAgg70 Tryd.sizeOf70 rfl (fun i v hi => st.chg.cell (hc i v hi) (by simp)))) ?_
    refine vc_e (e_al (l := [_, _, _, _, _, _, _]) st rfl rfl Tryd.zeroValue70 rfl ?_)
    intro b5 w hb5 st
    refine vc_e (e_sts (vs := [_, _, _, _, _, _, _]) st 0 rfl rfl rfl rfl rfl Tryd.sizeOf70 rfl rfl (by first | (right; assumption) | (left; simp)) ?_)
    intro w st; dsimp only [setNth, wr] at st
    refine vc_end ?_
    refine vq_then ?_
    refine vc_keep [(3, _), (5, _), (6, _), (7, _), (8, _)] ⟨rfl, rfl, rfl, rfl, rfl, trivial⟩ ?_
    refine vc_seq ?_
    refine vk_draw Tryd.mixed [(0, true), (3, true), (6, true), (1, true), (4, true), (7, true), (2, false), (9, true), (5, false), (8, false), (10, false), (11, true), (12, false), (13, true), (14, false)] 10 (fun w => St _ _ [.blk b5 (.cells (smL s oe ob ol ce cb cl).toArray 70 (0, 0))] w) (by exact st.drop (by repeat (first | exact sl0 | apply sl1 | apply sl2))) (by kernel_rfl) (by repeat (first | exact okQ_body | refine okQ_then ?_ | refine okQ_block ?_)) rfl (by kernel_rfl) rfl ?_
    intro w cd; replace st := st.call0 cd; clear cd
    have hS : St _ _ [.blk b5 (.cells (smL s oe ob ol ce cb cl).toArray 70 (0, 0))] w := (by exact st.drop (by repeat (first | exact sl0 | apply sl1 | apply sl2)))
    refine vk_takeU rfl rfl rfl rfl (fun _ => hS) (fun w => (by exact y_faz (k := 3) rfl Tryd.underlying70 rfl rfl Tryd.sizeOf61 rfl)) ?_
    refine vk_takeU rfl rfl rfl rfl (fun _ => hS) (fun w => (by exact y_faz (k := 4) rfl Tryd.underlying70 rfl rfl Tryd.sizeOf40 rfl)) ?_
    refine vk_takeU rfl rfl rfl rfl (fun _ => hS) (fun w => (by exact y_faz (k := 5) rfl Tryd.underlying70 rfl rfl Tryd.sizeOf40 rfl)) ?_
    refine vk_take rfl rfl rfl rfl hS (fun w st => (by exact y_ld st 0 rfl Tryd.isAgg61 rfl rfl)) ?_
    refine vk_take rfl rfl rfl rfl hS (fun w st => (by exact y_ld st 0 rfl Tryd.isAgg40 rfl rfl)) ?_
    refine vk_take rfl rfl rfl rfl hS (fun w st => (by exact y_ld st 0 rfl Tryd.isAgg40 rfl rfl)) ?_
    refine vk_do rfl rfl (e_call [_] rfl rfl Tryd.call121 rfl (pcopyE_any _ s.e rfl hks.e _ _ _ (hse.kept (Same.of_nil st.chg)) (Nat.le_trans hn0 st.chg.size)) ?_)
    rintro _ w ⟨q1, c1, S1, rfl, hQ, hN, cw⟩
    have hN1 := hN.le st.chg.size
    replace st := St.pushR (r := .tree S1 (fun w => ExRQ w q1 c1 s.e S1)) st cw (holds_of hQ hQ.lt (fun a b h hk => h.kept hk)) hN.2
    refine vk_next (by exact st.drop (by repeat (first | exact sl0 | apply sl1 | apply sl2))) ?_; intro hS
    refine vk_takeU rfl rfl rfl rfl (fun _ => hS) (fun w => (by exact y_faz (k := 3) rfl Tryd.underlying70 rfl rfl Tryd.sizeOf61 rfl)) ?_
    refine vk_do rfl rfl (e_call [_] rfl rfl Tryd.call98 rfl (ih _ hB s.body rfl hks.body _ _ _ (hsb.kept (Same.of_nil st.chg)) (Nat.le_trans hn0 st.chg.size)) ?_)
    rintro _ w ⟨q2, c2, S2, rfl, hQ, hN, cw⟩
    have hN2 := hN.le st.chg.size
    replace st := St.pushR (r := .tree S2 (fun w => SmRQ w q2 c2 s.body S2)) st cw (holds_of hQ hQ.lt (fun a b h hk => h.kept hk)) hN.2
    refine vk_next (by exact st.drop (by repeat (first | exact sl0 | apply sl1 | apply sl2))) ?_; intro hS
    refine vk_do rfl rfl (e_call [_] rfl rfl Tryd.call98 rfl (ih _ hL s.els rfl hks.els _ _ _ (hsl.kept (Same.of_nil st.chg)) (Nat.le_trans hn0 st.chg.size)) ?_)
    rintro _ w ⟨q3, c3, S3, rfl, hQ, hN, cw⟩
    have hN3 := hN.le st.chg.size
    replace st := St.pushR (r := .tree S3 (fun w => SmRQ w q3 c3 s.els S3)) st cw (holds_of hQ hQ.lt (fun a b h hk => h.kept hk)) hN.2
    refine vk_next (by exact st.drop (by repeat (first | exact sl0 | apply sl1 | apply sl2))) ?_; intro hS
    refine vk_do rfl rfl (e_st st 3 rfl rfl rfl rfl Tryd.sizeOf61 rfl rfl (by first | (right; assumption) | (left; simp)) ?_)
    intro w st; dsimp only [setNth, wr] at st
    refine vk_late ?_
    refine vk_takeU rfl rfl rfl rfl (fun h => by cases h) (fun w => (by exact y_faz (k := 4) rfl Tryd.underlying70 rfl rfl Tryd.sizeOf40 rfl)) ?_
    refine vk_do rfl rfl (e_st st 3 rfl rfl rfl rfl Tryd.sizeOf40 rfl rfl (by first | (right; assumption) | (left; simp)) ?_)
    intro w st; dsimp only [setNth, wr] at st
    refine vk_late ?_
    refine vk_takeU rfl rfl rfl rfl (fun h => by cases h) (fun w => (by exact y_faz (k := 5) rfl Tryd.underlying70 rfl rfl Tryd.sizeOf40 rfl)) ?_
    refine vk_do rfl rfl (e_st st 3 rfl rfl rfl rfl Tryd.sizeOf40 rfl rfl (by first | (right; assumption) | (left; simp)) ?_)
    intro w st; dsimp only [setNth, wr] at st
    refine vk_late ?_
    refine vk_end ?_
    refine vq_then ?_
    refine vc_keep [(3, _), (5, _), (6, _), (7, _), (8, _)] ⟨rfl, rfl, rfl, rfl, rfl, trivial⟩ ?_
    refine vc_region ?_
    refine vc_y rfl rfl (y_mv rfl) ?_
    refine vc_y rfl rfl ((by exact y_lda (vs := [_, _, _, _, _, _, _]) st 3 rfl Tryd.isAgg70 Tryd.sizeOf70 rfl rfl)) ?_
    refine vc_e (e_bs1 (l := [_, _, _, _, _, _, _]) st rfl rfl rfl rfl Tryd.underlying40 Tryd.sizeOf70 rfl rfl rfl Tryd.zeroValue70 ?_)
    intro b26 w hb26 st
    refine vc_e (e_app (bytes := 120) st 5 0 rfl rfl rfl rfl rfl rfl Tryd.underlying40 Tryd.info70 rfl rfl rfl rfl rfl (by simp) rfl rfl (by unfold maxLen; omega) (by omega) ?_)
    intro oaQ capQ w st; dsimp only [setNth] at st
    refine vc_y rfl rfl (y_as rfl) ?_
    refine vc_end ?_
    refine vq_block ?_
    refine vq_then ?_
    refine vc_keep [(3, _), (6, _), (7, _), (8, _)] ⟨rfl, rfl, rfl, rfl, trivial⟩ ?_
    refine vc_region ?_
    have d23 := st.ne (i := 2) (j := 1) (by decide) rfl rfl
    have d12 := st.ne (i := 3) (j := 2) (by decide) rfl rfl
    have d13 := st.ne (i := 3) (j := 1) (by decide) rfl rfl
    have dS1 := st.ne (i := 6) (j := 3) (by decide) rfl rfl
    have dS2 := st.ne (i := 6) (j := 2) (by decide) rfl rfl
    have dS3 := st.ne (i := 6) (j := 1) (by decide) rfl rfl
    have hNq := hN1.app (hN2.app hN3 d23) (fun b hb hb' => (List.mem_append.1 hb').elim (d12 b hb) (d13 b hb))
    have hne : ∀ b ∈ S, b ∉ S1 ++ (S2 ++ S3) := fun b hb hb' => (List.mem_append.1 hb').elim (dS1 b hb) fun h => (List.mem_append.1 h).elim (dS2 b hb) (dS3 b hb)
    have h0 := (st.res (i := 6) rfl).1
    have h1 := (st.res (i := 3) rfl).1
    have h2 := (st.res (i := 2) rfl).1
    have h3 := (st.res (i := 1) rfl).1
    have h4 : SmSs 63 70 w (es.take (j + 1)) (xs ++ smL s q1 q2 q3 c1 c2 c3) (S ++ (S1 ++ (S2 ++ S3))) := by rw [take_snoc hsj]; exact SmSs.snoc h0 (SmS_iff.2 ⟨q1, c1, q2, c2, q3, c3, S1, S2, S3, rfl, h1, h2, h3, rfl⟩)
    have stN := (((st.pick [6, 3, 2, 1, 5] rfl (by decide)).joinN 4 (q := .tree (S ++ (S1 ++ (S2 ++ S3))) fun w => SmSs 63 70 w (es.take (j + 1)) (xs ++ smL s q1 q2 q3 c1 c2 c3) (S ++ (S1 ++ (S2 ++ S3)))) (fun k hk => by
      simp only [Res.at?, List.mem_append] at hk
      rcases hk with h | h | h | h
      · exact ⟨_, .head _, h⟩
      · exact ⟨_, .tail _ (.head _), h⟩
      · exact ⟨_, .tail _ (.tail _ (.head _)), h⟩
      · exact ⟨_, .tail _ (.tail _ (.tail _ (.head _))), h⟩) (holds_of h4 h4.lt (fun a b h hk => h.kept hk)))).pick [1, 0] rfl (by decide)
    refine vc_y rfl rfl (y_add rfl rfl (by omega : _ = ((j + 1 : Nat) : Int)) (by omega) (by omega)) ?_
    refine vc_y rfl rfl (y_mv rfl) ?_
    refine vc_end ?_
    refine vq_again (j + 1, oaQ, capQ, xs ++ smL s q1 q2 q3 c1 c2 c3, S ++ (S1 ++ (S2 ++ S3)))  ⟨rfl, rfl, rfl, rfl, trivial⟩ stN ?_ ?_
    · exact ⟨by dsimp only; omega, hSS.app hNq hne⟩
    · dsimp only; omega
  · intro hc9
    try simp only [dn] at hc9
    refine vc_exit ?_
    refine vq_then_exit ?_
    refine vq_then_exit ?_
    refine vq_block_exit ?_
    refine vq_then ?_
    refine vc_keep [(3, _)] ⟨rfl, trivial⟩ ?_
    refine vc_seq ?_
    refine vc_region ?_
    refine vc_y rfl rfl (y_mv rfl) ?_
    refine vc_y rfl rfl (y_as rfl) ?_
    refine vc_end ?_
    refine vq_then ?_
    refine vc_keep [(2, _)] ⟨rfl, trivial⟩ ?_
    refine vc_ret ?_
    refine vq_ret1 st (.inl rfl) Tryd.results98 (.tmp rfl) ?_
    refine ⟨_, rfl, ?_⟩
    obtain rfl : j = es.length := by omega
    rw [List.take_length] at st
    obtain ⟨h1, h2⟩ := st.ownNw (i := 0) rfl
    have h3 := (st.res (i := 1) rfl).1
    exact ⟨oj, cj, obk oj ++ S, rfl, ⟨xs, S, h1, rfl, h3⟩, h2.app hSS (fun b hb => st.ne (i := 0) (j := 1) (by decide) rfl rfl b (by simpa [Res.at?, obk_own] using hb)), st.chg⟩

end
end Go.Proofs.YtnmhlpnapgojjaaDoor


namespace Go.Proofs.YtnmhlpnapgojjaaDoor
open Go.RowKit Sx LexS
set_option linter.unusedVariables false
set_option linter.unusedSimpArgs false
/-- what the closures turn names and places by, and where these lie -/
structure Env where
  g : List UInt8 → List UInt8
  h : Int → Int
  fn : Nat
  fa : Nat
  cn : List Value
  ca : List Value
  bn : Nat
  ba : Nat
  be : Nat
  bs : Nat
  E : List Nat
  ψ : World → Prop
namespace Env
def pn (e : Env) : Value := .pointer (some ⟨e.bn, 0, none⟩)
def pa (e : Env) : Value := .pointer (some ⟨e.ba, 0, none⟩)
def pe (e : Env) : Value := .pointer (some ⟨e.be, 0, none⟩)
def ps (e : Env) : Value := .pointer (some ⟨e.bs, 0, none⟩)
/-- the boxes of the two functions -/
def in2 (e : Env) (w : World) : Prop := w.heap[e.bn]? = some (.cells [.func (.func e.fn) #[] e.cn.toArray].toArray 72 (0, 0)) ∧ w.heap[e.ba]? = some (.cells [.func (.func e.fa) #[] e.ca.toArray].toArray 73 (0, 0)) ∧ e.ψ w
def in3 (e : Env) (w : World) : Prop := e.in2 w ∧ w.heap[e.be]? = some (.cells [.func (.func 67) #[] [e.pn, e.pa, e.pe].toArray].toArray 77 (0, 0))
def in4 (e : Env) (w : World) : Prop := e.in3 w ∧ w.heap[e.bs]? = some (.cells [.func (.func 68) #[] [e.pn, e.pa, e.pe, e.ps].toArray].toArray 78 (0, 0))
structure Ok (e : Env) : Prop where
  nm : ∀ s w, e.ψ w → Ret Tryd.prog e.fn ([] ++ [str s] ++ e.cn) w fun v w' => v = str (e.g s) ∧ w' = w
  at_ : ∀ a w, e.ψ w → Ret Tryd.prog e.fa ([] ++ [.int .i64 a] ++ e.ca) w fun v w' => v = .int .i64 (e.h a) ∧ w' = w
  loc : ∀ w w', e.ψ w → (∀ b ∈ e.E, w'.heap[b]? = w.heap[b]?) → e.ψ w'
  mn : e.bn ∈ e.E
  ma : e.ba ∈ e.E
  me : e.be ∈ e.E
  ms : e.bs ∈ e.E
  calln : ∀ (xs : Array Value) w, (callFunc e.fn xs).run Tryd.prog w = .ok (.enter e.fn xs) w
  calla : ∀ (xs : Array Value) w, (callFunc e.fa xs).run Tryd.prog w = .ok (.enter e.fa xs) w
variable {e : Env} {w w' : World}
theorem in2.kept (ok : e.Ok) (h : e.in2 w) (hk : ∀ b ∈ e.E, w'.heap[b]? = w.heap[b]?) : e.in2 w' := ⟨by rw [hk _ ok.mn]; exact h.1, by rw [hk _ ok.ma]; exact h.2.1, ok.loc _ _ h.2.2 hk⟩
theorem in3.kept (ok : e.Ok) (h : e.in3 w) (hk : ∀ b ∈ e.E, w'.heap[b]? = w.heap[b]?) : e.in3 w' := ⟨in2.kept ok h.1 hk, by rw [hk _ ok.me]; exact h.2⟩
theorem in4.kept (ok : e.Ok) (h : e.in4 w) (hk : ∀ b ∈ e.E, w'.heap[b]? = w.heap[b]?) : e.in4 w' := ⟨in3.kept ok h.1 hk, by rw [hk _ ok.ms]; exact h.2⟩
end Env
section
variable {e : Env} {cap : Nat}
theorem loc_dc {oa : Option Addr} {ds : List Dc} {S : List Nat} : Sx.Loc S fun w => DcRQ w oa cap ds S := loc_of fun a b h hk => h.kept hk
theorem loc_ex {oa : Option Addr} {ds : List Ex} {S : List Nat} : Sx.Loc S fun w => ExRQ w oa cap ds S := loc_of fun a b h hk => h.kept hk
theorem loc_sm {oa : Option Addr} {ds : List Sm} {S : List Nat} : Sx.Loc S fun w => SmRQ w oa cap ds S := loc_of fun a b h hk => h.kept hk
theorem loc_th {oa : Option Addr} {ds : List Th} {S : List Nat} : Sx.Loc S fun w => ThRQ w oa cap ds S := loc_of fun a b h hk => h.kept hk
end
section

set_option maxHeartbeats 1000000 in
theorem dl_any (e : Env) (ok : e.Ok) (ds : List Dc) (hn : ds.length ≤ 1099511627776) (oa : Option Addr) (cap : Nat) (S : List Nat) (w : World) (hQ : DcRQ w oa cap ds S) (hS : S.Nodup) (hE : e.in2 w) (hEl : ∀ b ∈ e.E, b < w.heap.size) (hd : ∀ b ∈ S, b ∉ e.E) :
    Ret Tryd.prog 66 ([] ++ [.slice oa ds.length cap] ++ [e.pn, e.pa]) w fun v w' => v = .tuple #[] ∧ DcRQ w' oa cap (ds.map (trD e.g e.h)) S ∧ Chg S w w' := by
  refine ret_of [_, _, _] Tryd.func66 rfl Tryd.ntmps66 rfl ?_
  have st := St.init w S
  clear st
  obtain ⟨w0, rfl⟩ : ∃ w0, w0 = w := ⟨_, rfl⟩
  have st := St.two (w := w0) (φ := fun w => DcRQ w oa cap ds S) (ψ := e.in2) hQ hE hQ.lt hEl loc_dc (loc_of fun a b h hk => Env.in2.kept ok h hk) hd
  have hSM : ∀ k ∈ S, k ∈ S ∨ w0.heap.size ≤ k := fun k hk => .inl hk
  refine vc_seq ?_
  refine vc_region ?_
  refine vc_y rfl rfl (y_mv rfl) ?_
  refine vc_y rfl rfl (y_lensl rfl Tryd.underlying22) ?_
  refine vc_y rfl rfl (y_mv rfl) ?_
  refine vc_end ?_
  refine vq_then ?_
  refine vc_keep [(0, _), (1, _), (2, _), (6, _), (7, _)] ⟨rfl, rfl, rfl, rfl, rfl, trivial⟩ ?_
  refine vc_block ?_
  refine vc_loop (w0 := w0) (M := S) (fun (j : Nat) => [(0, .slice oa ds.length cap), (1, e.pn), (2, e.pa), (6, .int .i64 (ds.length : Int)), (7, .int .i64 (j : Int))]) (fun j => [.tree S (fun w => DcRQ w oa cap (mixL (trD e.g e.h) ds j) S), .tree e.E e.in2]) (fun j _ => j ≤ ds.length) (fun j => ds.length - j) 0 ⟨rfl, rfl, rfl, rfl, rfl, trivial⟩ (by simpa only [mixL_zero] using st) (by omega) ?_
  clear st
  rintro j w hj st
  refine vc_seq ?_
  refine vc_region ?_
  refine vc_y rfl rfl (y_lss rfl rfl) ?_
  refine vc_end ?_
  refine vq_then ?_
  refine vc_keep [(0, _), (1, _), (2, _), (6, _), (7, _), (8, _)] ⟨rfl, rfl, rfl, rfl, rfl, rfl, trivial⟩ ?_
  refine vc_seq ?_
  refine vc_ifs rfl ?_ ?_
  · intro hc8
    try simp only [dn] at hc8
    obtain ⟨x, hx⟩ : ∃ x, ds[j]? = some x := ⟨_, List.getElem?_eq_getElem (by omega)⟩
    have hmx := mixL_get (f := trD e.g e.h) hx
    have stK := st
    obtain ⟨b, rfl, hrow, hcells, -, -⟩ := dcR_focus (st.res (i := 0) rfl).1 hmx
    have st := stK
    clear stK
    have hcell0 : ∀ w, DcRQ w (some ⟨b, 0, none⟩) cap (mixL (trD e.g e.h) ds j) S → w.cell? ⟨b, j * 3 + 0, none⟩ = some (str x.nm) ∧ w.cell? ⟨b, j * 3 + 2, none⟩ = some (.int .i64 x.a) := fun w h => by
      obtain ⟨b', hb', -, hc, -, -⟩ := dcR_focus h hmx
      simp only [Option.some.injEq, Addr.mk.injEq, and_true] at hb'
      subst hb'
      exact ⟨hc 0 _ rfl, hc 2 _ rfl⟩
    refine vc_code_skip ?_
    refine vq_then ?_
    refine vc_keep [(0, _), (1, _), (2, _), (6, _), (7, _)] ⟨rfl, rfl, rfl, rfl, rfl, trivial⟩ ?_
    refine vc_seq ?_
    refine vc_block ?_
    refine vc_seq ?_
    refine vc_region ?_
    refine vc_y rfl rfl (y_mv rfl) ?_
    refine vc_y rfl rfl (y_as rfl) ?_
    refine vc_end ?_
    refine vq_then ?_
    refine vc_keep [(0, _), (1, _), (2, _), (4, _), (6, _), (7, _)] ⟨rfl, rfl, rfl, rfl, rfl, rfl, trivial⟩ ?_
    refine vk_draw Tryd.mixed [(0, true), (1, true), (2, true), (3, true), (5, true), (6, true), (7, true), (8, true), (12, true), (13, true), (14, true), (15, true), (4, true), (9, true), (11, true), (16, true), (10, false), (17, false), (18, true), (19, true), (20, false), (21, true), (22, true), (23, false)] 20 (fun w => St _ _ [.tree S (fun w => DcRQ w (some ⟨b, 0, none⟩) cap (mixL (trD e.g e.h) ds j) S), .tree e.E e.in2] w) (by exact st) (by kernel_rfl) (by repeat (first | exact okQ_body | refine okQ_then ?_ | refine okQ_block ?_)) rfl (by kernel_rfl) rfl ?_
    intro w cd; replace st := st.call0 cd; clear cd
    have hS : St _ _ [.tree S (fun w => DcRQ w (some ⟨b, 0, none⟩) cap (mixL (trD e.g e.h) ds j) S), .tree e.E e.in2] w := (by exact st)
    refine vk_takeU rfl rfl rfl rfl (fun _ => hS) (fun w => y_mv rfl) ?_
    refine vk_takeU rfl rfl rfl rfl (fun _ => hS) (fun w => y_mv rfl) ?_
    refine vk_takeU rfl rfl rfl rfl (fun _ => hS) (fun w => y_mv rfl) ?_
    refine vk_takeU rfl rfl rfl rfl (fun _ => hS) (fun w => y_mv rfl) ?_
    refine vk_takeU rfl rfl rfl rfl (fun _ => hS) (fun w => y_mv rfl) ?_
    refine vk_takeU rfl rfl rfl rfl (fun _ => hS) (fun w => y_mv rfl) ?_
    refine vk_takeU rfl rfl rfl rfl (fun _ => hS) (fun w => (by exact y_ia0 (k := j) rfl rfl Tryd.underlying22 Tryd.sizeOf67 rfl (by omega))) ?_
    refine vk_takeU rfl rfl rfl rfl (fun _ => hS) (fun w => y_fa0 rfl Tryd.underlying67 rfl rfl Tryd.sizeOf9 rfl) ?_
    refine vk_takeU rfl rfl rfl rfl (fun _ => hS) (fun w => y_mv rfl) ?_
    refine vk_takeU rfl rfl rfl rfl (fun _ => hS) (fun w => y_mv rfl) ?_
    refine vk_takeU rfl rfl rfl rfl (fun _ => hS) (fun w => (by exact y_ia0 (k := j) rfl rfl Tryd.underlying22 Tryd.sizeOf67 rfl (by omega))) ?_
    refine vk_takeU rfl rfl rfl rfl (fun _ => hS) (fun w => (by exact y_fa (k := 2) rfl Tryd.underlying67 rfl rfl Tryd.sizeOf3 rfl)) ?_
    refine vk_take rfl rfl rfl rfl hS (fun w st => (by exact y_ldc rfl Tryd.isAgg72 (cell_nth (st.res (i := 1) rfl).1.1 rfl))) ?_
    refine vk_take rfl rfl rfl rfl hS (fun w st => (by exact y_ldc rfl Tryd.isAgg9 (hcell0 _ (st.res (i := 0) rfl).1).1)) ?_
    refine vk_take rfl rfl rfl rfl hS (fun w st => (by exact y_ldc rfl Tryd.isAgg73 (cell_nth (st.res (i := 1) rfl).1.2.1 rfl))) ?_
    refine vk_take rfl rfl rfl rfl hS (fun w st => (by exact y_ldc rfl Tryd.isAgg3 (hcell0 _ (st.res (i := 0) rfl).1).2)) ?_
    refine vk_do rfl rfl (e_callv [_] rfl rfl rfl ok.calln rfl (ok.nm x.nm _ (st.res (i := 1) rfl).1.2.2) ?_)
    rintro _ _ ⟨rfl, rfl⟩
    refine vk_next (by exact st) ?_; intro hS
    refine vk_do rfl rfl (e_callv [_] rfl rfl rfl ok.calla rfl (ok.at_ x.a _ (st.res (i := 1) rfl).1.2.2) ?_)
    rintro _ _ ⟨rfl, rfl⟩
    refine vk_next (by exact st) ?_; intro hS
    refine vk_takeU rfl rfl rfl rfl (fun _ => hS) (fun w => (by exact y_ia0 (k := j) rfl rfl Tryd.underlying22 Tryd.sizeOf67 rfl (by omega))) ?_
    refine vk_takeU rfl rfl rfl rfl (fun _ => hS) (fun w => y_fa0 rfl Tryd.underlying67 rfl rfl Tryd.sizeOf9 rfl) ?_
    obtain ⟨b1, hb1, r1, c1, s1, -⟩ := dcR_focus (st.res (i := 0) rfl).1 hmx
    simp only [Option.some.injEq, Addr.mk.injEq, and_true] at hb1
    subst hb1
    refine vk_do rfl rfl (e_stT st 0 (ψ := fun w => DcRQ w (some ⟨b, 0, none⟩) cap ((mixL (trD e.g e.h) ds j).set j { x with nm := e.g x.nm }) S) rfl rfl rfl rfl Tryd.sizeOf9 rfl r1.mem (hSM _ r1.mem) ⟨_, c1 0 _ rfl⟩ (r1.fz _) (s1 _) loc_dc ?_)
    intro w st; dsimp only [setNth] at st
    refine vk_late ?_
    refine vk_takeU rfl rfl rfl rfl (fun h => by cases h) (fun w => (by exact y_ia0 (k := j) rfl rfl Tryd.underlying22 Tryd.sizeOf67 rfl (by omega))) ?_
    refine vk_takeU rfl rfl rfl rfl (fun h => by cases h) (fun w => (by exact y_fa (k := 2) rfl Tryd.underlying67 rfl rfl Tryd.sizeOf3 rfl)) ?_
    have hmx2 : ((mixL (trD e.g e.h) ds j).set j { x with nm := e.g x.nm })[j]? = some { x with nm := e.g x.nm } := by rw [List.getElem?_set_self (by rw [mixL_len]; omega)]
    obtain ⟨b2, hb2, r2, c2, -, s2⟩ := dcR_focus (st.res (i := 0) rfl).1 hmx2
    simp only [Option.some.injEq, Addr.mk.injEq, and_true] at hb2
    subst hb2
    have hstep : ((mixL (trD e.g e.h) ds j).set j { x with nm := e.g x.nm }).set j { ({ x with nm := e.g x.nm } : Dc) with a := e.h x.a } = mixL (trD e.g e.h) ds (j + 1) := by rw [List.set_set]; exact mixL_step (f := trD e.g e.h) hx
    refine vk_do rfl rfl (e_stT st 0 (ψ := fun w => DcRQ w (some ⟨b, 0, none⟩) cap (mixL (trD e.g e.h) ds (j + 1)) S) rfl rfl rfl rfl Tryd.sizeOf3 rfl r2.mem (hSM _ r2.mem) ⟨_, c2 2 _ rfl⟩ (r2.fz _) (hstep ▸ s2 (e.h x.a)) loc_dc ?_)
    intro w st; dsimp only [setNth] at st
    refine vk_late ?_
    refine vk_end ?_
    refine vq_block ?_
    refine vq_then ?_
    refine vc_keep [(0, _), (1, _), (2, _), (6, _), (7, _)] ⟨rfl, rfl, rfl, rfl, rfl, trivial⟩ ?_
    refine vc_region ?_
    refine vc_y rfl rfl (y_add rfl rfl (by omega : _ = ((j + 1 : Nat) : Int)) (by omega) (by omega)) ?_
    refine vc_y rfl rfl (y_mv rfl) ?_
    refine vc_end ?_
    refine vq_again (j + 1)  ⟨rfl, rfl, rfl, rfl, rfl, trivial⟩ st ?_ ?_
    · omega
    · omega
  · intro hc8
    try simp only [dn] at hc8
    refine vc_exit ?_
    refine vq_then_exit ?_
    refine vq_then_exit ?_
    refine vq_block_exit ?_
    refine vq_ret0 (.inr rfl) Tryd.results66 ?_
    refine ⟨_, rfl, ?_⟩
    obtain rfl : j = ds.length := by omega
    rw [mixL_all] at st
    exact ⟨rfl, (st.res (i := 0) rfl).1, st.chg⟩

end
end Go.Proofs.YtnmhlpnapgojjaaDoor


namespace Go.Proofs.YtnmhlpnapgojjaaDoor
open Go.RowKit Sx LexS
set_option linter.unusedVariables false
set_option linter.unusedSimpArgs false
theorem trEs_len {g : List UInt8 → List UInt8} {h : Int → Int} (l : List Ex) : (trEs g h l).length = l.length := by rw [trEs_map, List.length_map]
theorem trSs_len {g : List UInt8 → List UInt8} {h : Int → Int} (l : List Sm) : (trSs g h l).length = l.length := by rw [trSs_map, List.length_map]
/-- an expression, its name and place turned -/
def eNA (e : Env) (x : Ex) : Ex := (x.setNm (e.g x.nm)).setAt (e.h x.a)
theorem eNA_kids (e : Env) (x : Ex) : (eNA e x).kids = x.kids := by cases x; rfl
theorem eNA_end (e : Env) (x : Ex) : (eNA e x).setKids (trEs e.g e.h x.kids) = trE e.g e.h x := by cases x; rfl
theorem set_get {α : Type} {l : List α} {j : Nat} {x y : α} (h : l[j]? = some x) : (l.set j y)[j]? = some y := by
  rw [List.getElem?_set_self (List.getElem?_eq_some_iff.1 h).1]

set_option maxHeartbeats 2000000 in
theorem el_any (e : Env) (ok : e.Ok) : ∀ (n : Nat) (es : List Ex), szo es = n → OkEs es → ∀ (oa : Option Addr) (cap : Nat) (S : List Nat) (w : World), ExRQ w oa cap es S → S.Nodup → e.in3 w → (∀ b ∈ e.E, b < w.heap.size) → (∀ b ∈ S, b ∉ e.E) →
    Ret Tryd.prog 67 ([] ++ [.slice oa es.length cap] ++ [e.pn, e.pa, e.pe]) w fun v w' => v = .tuple #[] ∧ ExRQ w' oa cap (trEs e.g e.h es) S ∧ Chg S w w' := by
  intro n
  refine Nat.strongRecOn n fun n ih => ?_
  intro es hn hok oa cap S w hQ hSN hE hEl hd
  subst hn
  have hn := hok.1
  refine ret_of [_, _, _, _] Tryd.func67 rfl Tryd.ntmps67 rfl ?_
  have st := St.init w S
  clear st
  obtain ⟨w0, rfl⟩ : ∃ w0, w0 = w := ⟨_, rfl⟩
  have st := St.two (w := w0) (φ := fun w => ExRQ w oa cap es S) (ψ := e.in3) hQ hE hQ.lt hEl loc_ex (loc_of fun a b h hk => Env.in3.kept ok h hk) hd
  have hSM : ∀ k ∈ S, k ∈ S ∨ w0.heap.size ≤ k := fun k hk => .inl hk
  refine vc_seq ?_
  refine vc_region ?_
  refine vc_y rfl rfl (y_mv rfl) ?_
  refine vc_y rfl rfl (y_lensl rfl Tryd.underlying61) ?_
  refine vc_y rfl rfl (y_mv rfl) ?_
  refine vc_end ?_
  refine vq_then ?_
  refine vc_keep [(0, _), (1, _), (2, _), (3, _), (7, _), (8, _)] ⟨rfl, rfl, rfl, rfl, rfl, rfl, trivial⟩ ?_
  refine vc_block ?_
  refine vc_loop (w0 := w0) (M := S) (fun (j : Nat) => [(0, .slice oa es.length cap), (1, e.pn), (2, e.pa), (3, e.pe), (7, .int .i64 (es.length : Int)), (8, .int .i64 (j : Int))]) (fun j => [.tree S (fun w => ExRQ w oa cap (mixL (trE e.g e.h) es j) S), .tree e.E e.in3]) (fun j _ => j ≤ es.length) (fun j => es.length - j) 0 ⟨rfl, rfl, rfl, rfl, rfl, rfl, trivial⟩ (by simpa only [mixL_zero] using st) (by omega) ?_
  clear st
  rintro j w hj st
  refine vc_seq ?_
  refine vc_region ?_
  refine vc_y rfl rfl (y_lss rfl rfl) ?_
  refine vc_end ?_
  refine vq_then ?_
  refine vc_keep [(0, _), (1, _), (2, _), (3, _), (7, _), (8, _), (9, _)] ⟨rfl, rfl, rfl, rfl, rfl, rfl, rfl, trivial⟩ ?_
  refine vc_seq ?_
  refine vc_ifs rfl ?_ ?_
  · intro hc9
    try simp only [dn] at hc9
    obtain ⟨x, hx⟩ : ∃ x, es[j]? = some x := ⟨_, List.getElem?_eq_getElem (by omega)⟩
    have hkx := hok.2 j x hx
    have hz := mem_size hx
    have hz2 : szo x.kids < szo es := by have := szo_kids x; omega
    have hmx := mixL_get (f := trE e.g e.h) hx
    have hm1 : ((mixL (trE e.g e.h) es j).set j (x.setNm (e.g x.nm)))[j]? = some (x.setNm (e.g x.nm)) := set_get hmx
    have hm2 : ((mixL (trE e.g e.h) es j).set j (eNA e x))[j]? = some (eNA e x) := set_get hmx
    have hs12 : ((mixL (trE e.g e.h) es j).set j (x.setNm (e.g x.nm))).set j ((x.setNm (e.g x.nm)).setAt (e.h x.a)) = (mixL (trE e.g e.h) es j).set j (eNA e x) := List.set_set ..
    have hs23 : ((mixL (trE e.g e.h) es j).set j (eNA e x)).set j ((eNA e x).setKids (trEs e.g e.h x.kids)) = mixL (trE e.g e.h) es (j + 1) := by rw [List.set_set, eNA_end]; exact mixL_step hx
    have stK := st
    obtain ⟨b, o0, c0, S0, rfl, -⟩ := exR_focus (st.res (i := 0) rfl).1 hSN hmx
    have st := stK
    clear stK
    have hcell0 : ∀ w, ExRQ w (some ⟨b, 0, none⟩) cap (mixL (trE e.g e.h) es j) S → w.cell? ⟨b, j * 6 + 3, none⟩ = some (str x.nm) ∧ w.cell? ⟨b, j * 6 + 5, none⟩ = some (.int .i64 x.a) := fun w h => by
      obtain ⟨b', o', c', S', hb', -, hc, -⟩ := exR_focus h hSN hmx
      simp only [Option.some.injEq, Addr.mk.injEq, and_true] at hb'
      subst hb'
      exact ⟨hc 3 _ rfl, hc 5 _ rfl⟩
    refine vc_code_skip ?_
    refine vq_then ?_
    refine vc_keep [(0, _), (1, _), (2, _), (3, _), (7, _), (8, _)] ⟨rfl, rfl, rfl, rfl, rfl, rfl, trivial⟩ ?_
    refine vc_seq ?_
    refine vc_block ?_
    refine vc_seq ?_
    refine vc_region ?_
    refine vc_y rfl rfl (y_mv rfl) ?_
    refine vc_y rfl rfl (y_as rfl) ?_
    refine vc_end ?_
    refine vq_then ?_
    refine vc_keep [(0, _), (1, _), (2, _), (3, _), (5, _), (7, _), (8, _)] ⟨rfl, rfl, rfl, rfl, rfl, rfl, rfl, trivial⟩ ?_
    refine vc_seq ?_
    refine vk_draw Tryd.mixed [(0, true), (1, true), (2, true), (3, true), (5, true), (6, true), (7, true), (8, true), (12, true), (13, true), (14, true), (15, true), (4, true), (9, true), (11, true), (16, true), (10, false), (17, false), (18, true), (19, true), (20, false), (21, true), (22, true), (23, false)] 20 (fun w => St _ _ [.tree S (fun w => ExRQ w (some ⟨b, 0, none⟩) cap (mixL (trE e.g e.h) es j) S), .tree e.E e.in3] w) (by exact st) (by kernel_rfl) (by repeat (first | exact okQ_body | refine okQ_then ?_ | refine okQ_block ?_)) rfl (by kernel_rfl) rfl ?_
    intro w cd; replace st := st.call0 cd; clear cd
    have hS : St _ _ [.tree S (fun w => ExRQ w (some ⟨b, 0, none⟩) cap (mixL (trE e.g e.h) es j) S), .tree e.E e.in3] w := (by exact st)
    refine vk_takeU rfl rfl rfl rfl (fun _ => hS) (fun w => y_mv rfl) ?_
    refine vk_takeU rfl rfl rfl rfl (fun _ => hS) (fun w => y_mv rfl) ?_
    refine vk_takeU rfl rfl rfl rfl (fun _ => hS) (fun w => y_mv rfl) ?_
    refine vk_takeU rfl rfl rfl rfl (fun _ => hS) (fun w => y_mv rfl) ?_
    refine vk_takeU rfl rfl rfl rfl (fun _ => hS) (fun w => y_mv rfl) ?_
    refine vk_takeU rfl rfl rfl rfl (fun _ => hS) (fun w => y_mv rfl) ?_
    refine vk_takeU rfl rfl rfl rfl (fun _ => hS) (fun w => (by exact y_ia0 (k := j) rfl rfl Tryd.underlying61 Tryd.sizeOf63 rfl (by omega))) ?_
    refine vk_takeU rfl rfl rfl rfl (fun _ => hS) (fun w => (by exact y_fa (k := 3) rfl Tryd.underlying63 rfl rfl Tryd.sizeOf9 rfl)) ?_
    refine vk_takeU rfl rfl rfl rfl (fun _ => hS) (fun w => y_mv rfl) ?_
    refine vk_takeU rfl rfl rfl rfl (fun _ => hS) (fun w => y_mv rfl) ?_
    refine vk_takeU rfl rfl rfl rfl (fun _ => hS) (fun w => (by exact y_ia0 (k := j) rfl rfl Tryd.underlying61 Tryd.sizeOf63 rfl (by omega))) ?_
    refine vk_takeU rfl rfl rfl rfl (fun _ => hS) (fun w => (by exact y_fa (k := 5) rfl Tryd.underlying63 rfl rfl Tryd.sizeOf3 rfl)) ?_
    refine vk_take rfl rfl rfl rfl hS (fun w st => (by exact y_ldc rfl Tryd.isAgg72 (cell_nth (st.res (i := 1) rfl).1.1.1 rfl))) ?_
    refine vk_take rfl rfl rfl rfl hS (fun w st => (by exact y_ldc rfl Tryd.isAgg9 (hcell0 _ (st.res (i := 0) rfl).1).1)) ?_
    refine vk_take rfl rfl rfl rfl hS (fun w st => (by exact y_ldc rfl Tryd.isAgg73 (cell_nth (st.res (i := 1) rfl).1.1.2.1 rfl))) ?_
    refine vk_take rfl rfl rfl rfl hS (fun w st => (by exact y_ldc rfl Tryd.isAgg3 (hcell0 _ (st.res (i := 0) rfl).1).2)) ?_
    refine vk_do rfl rfl (e_callv [_] rfl rfl rfl ok.calln rfl (ok.nm x.nm _ (st.res (i := 1) rfl).1.1.2.2) ?_)
    rintro _ _ ⟨rfl, rfl⟩
    refine vk_next (by exact st) ?_; intro hS
    refine vk_do rfl rfl (e_callv [_] rfl rfl rfl ok.calla rfl (ok.at_ x.a _ (st.res (i := 1) rfl).1.1.2.2) ?_)
    rintro _ _ ⟨rfl, rfl⟩
    refine vk_next (by exact st) ?_; intro hS
    refine vk_takeU rfl rfl rfl rfl (fun _ => hS) (fun w => (by exact y_ia0 (k := j) rfl rfl Tryd.underlying61 Tryd.sizeOf63 rfl (by omega))) ?_
    refine vk_takeU rfl rfl rfl rfl (fun _ => hS) (fun w => (by exact y_fa (k := 3) rfl Tryd.underlying63 rfl rfl Tryd.sizeOf9 rfl)) ?_
    obtain ⟨b1, o1, c1, S1, hb1, r1, k1, -, -, -, s1, -⟩ := exR_focus (st.res (i := 0) rfl).1 hSN hmx
    simp only [Option.some.injEq, Addr.mk.injEq, and_true] at hb1
    subst hb1
    refine vk_do rfl rfl (e_stT st 0 (ψ := fun w => ExRQ w (some ⟨b, 0, none⟩) cap ((mixL (trE e.g e.h) es j).set j (x.setNm (e.g x.nm))) S) rfl rfl rfl rfl Tryd.sizeOf9 rfl r1.mem (hSM _ r1.mem) ⟨_, k1 3 _ rfl⟩ (r1.fz _) (s1 _) loc_ex ?_)
    intro w st; dsimp only [setNth] at st
    refine vk_late ?_
    refine vk_takeU rfl rfl rfl rfl (fun h => by cases h) (fun w => (by exact y_ia0 (k := j) rfl rfl Tryd.underlying61 Tryd.sizeOf63 rfl (by omega))) ?_
    refine vk_takeU rfl rfl rfl rfl (fun h => by cases h) (fun w => (by exact y_fa (k := 5) rfl Tryd.underlying63 rfl rfl Tryd.sizeOf3 rfl)) ?_
    obtain ⟨b2, o2, c2, S2, hb2, r2, k2, -, -, -, -, s2, -⟩ := exR_focus (st.res (i := 0) rfl).1 hSN hm1
    simp only [Option.some.injEq, Addr.mk.injEq, and_true] at hb2
    subst hb2
    refine vk_do rfl rfl (e_stT st 0 (ψ := fun w => ExRQ w (some ⟨b, 0, none⟩) cap ((mixL (trE e.g e.h) es j).set j (eNA e x)) S) rfl rfl rfl rfl Tryd.sizeOf3 rfl r2.mem (hSM _ r2.mem) ⟨_, k2 5 _ rfl⟩ (r2.fz _) (hs12 ▸ s2 (e.h x.a)) loc_ex ?_)
    intro w st; dsimp only [setNth] at st
    refine vk_late ?_
    refine vk_end ?_
    refine vq_then ?_
    refine vc_keep [(0, _), (1, _), (2, _), (3, _), (5, _), (7, _), (8, _)] ⟨rfl, rfl, rfl, rfl, rfl, rfl, rfl, trivial⟩ ?_
    refine vk_draw Tryd.mixed [(1, true), (2, true), (3, true), (4, true), (0, true), (5, false), (6, false)] 6 (fun w => St _ _ [.tree S (fun w => ExRQ w (some ⟨b, 0, none⟩) cap ((mixL (trE e.g e.h) es j).set j (eNA e x)) S), .tree e.E e.in3] w) (by exact st) (by kernel_rfl) (by repeat (first | exact okQ_body | refine okQ_then ?_ | refine okQ_block ?_)) rfl (by kernel_rfl) rfl ?_
    intro w cd; replace st := st.call0 cd; clear cd
    have hS : St _ _ [.tree S (fun w => ExRQ w (some ⟨b, 0, none⟩) cap ((mixL (trE e.g e.h) es j).set j (eNA e x)) S), .tree e.E e.in3] w := (by exact st)
    refine vk_takeU rfl rfl rfl rfl (fun _ => hS) (fun w => y_mv rfl) ?_
    refine vk_takeU rfl rfl rfl rfl (fun _ => hS) (fun w => y_mv rfl) ?_
    refine vk_takeU rfl rfl rfl rfl (fun _ => hS) (fun w => (by exact y_ia0 (k := j) rfl rfl Tryd.underlying61 Tryd.sizeOf63 rfl (by omega))) ?_
    refine vk_takeU rfl rfl rfl rfl (fun _ => hS) (fun w => (by exact y_fa (k := 4) rfl Tryd.underlying63 rfl rfl Tryd.sizeOf61 rfl)) ?_
    refine vk_take rfl rfl rfl rfl hS (fun w st => (by exact y_ldc rfl Tryd.isAgg77 (cell_nth (st.res (i := 1) rfl).1.2 rfl))) ?_
    obtain ⟨b3, o3, c3, S3, hb3, r3, k3, q3, n3, sub3, -, -, put3⟩ := exR_focus (st.res (i := 0) rfl).1 hSN hm2
    simp only [Option.some.injEq, Addr.mk.injEq, and_true] at hb3
    subst hb3
    rw [eNA_kids] at q3
    refine vk_do rfl rfl (e_run rfl rfl ((by exact y_ldc rfl Tryd.isAgg61 (k3 4 (.slice o3 x.kids.length c3) (by rw [eNA_kids]; rfl)))) ?_)
    refine vk_next (by exact st) ?_; intro hS
    refine vk_do rfl rfl (e_callv [_] rfl rfl rfl Tryd.call67 rfl (ih _ hz2 x.kids rfl hkx.kids o3 c3 S3 _ q3 n3 (st.res (i := 1) rfl).1 (st.res (i := 1) rfl).2.1 (fun k hk => hd k (sub3 k hk))) ?_)
    rintro _ w ⟨rfl, hq, hc⟩
    replace st := st.within (ψ := fun w => ExRQ w (some ⟨b, 0, none⟩) cap (mixL (trE e.g e.h) es (j + 1)) S) hc sub3 hSM (hs23 ▸ put3 w (trEs e.g e.h x.kids) (by rw [trEs_len, eNA_kids]) hq hc) loc_ex
    refine vk_late ?_
    refine vk_end ?_
    refine vq_block ?_
    refine vq_then ?_
    refine vc_keep [(0, _), (1, _), (2, _), (3, _), (7, _), (8, _)] ⟨rfl, rfl, rfl, rfl, rfl, rfl, trivial⟩ ?_
    refine vc_region ?_
    refine vc_y rfl rfl (y_add rfl rfl (by omega : _ = ((j + 1 : Nat) : Int)) (by omega) (by omega)) ?_
    refine vc_y rfl rfl (y_mv rfl) ?_
    refine vc_end ?_
    refine vq_again (j + 1)  ⟨rfl, rfl, rfl, rfl, rfl, rfl, trivial⟩ st ?_ ?_
    · omega
    · omega
  · intro hc9
    try simp only [dn] at hc9
    refine vc_exit ?_
    refine vq_then_exit ?_
    refine vq_then_exit ?_
    refine vq_block_exit ?_
    refine vq_ret0 (.inr rfl) Tryd.results67 ?_
    refine ⟨_, rfl, ?_⟩
    obtain rfl : j = es.length := by omega
    rw [mixL_all, ← trEs_map] at st
    exact ⟨rfl, (st.res (i := 0) rfl).1, st.chg⟩

end Go.Proofs.YtnmhlpnapgojjaaDoor


namespace Go.Proofs.YtnmhlpnapgojjaaDoor
open Go.RowKit Sx LexS
set_option linter.unusedVariables false
set_option linter.unusedSimpArgs false
def s1 (e : Env) (x : Sm) : Sm := x.setNm (e.g x.nm)
def s2 (e : Env) (x : Sm) : Sm := (s1 e x).setOther (e.g x.other)
def s3 (e : Env) (x : Sm) : Sm := (s2 e x).setAt (e.h x.a)
def s4 (e : Env) (x : Sm) : Sm := (s3 e x).setE (trEs e.g e.h x.e)
def s5 (e : Env) (x : Sm) : Sm := (s4 e x).setBody (trSs e.g e.h x.body)
theorem s3_e (e : Env) (x : Sm) : (s3 e x).e = x.e := by cases x; rfl
theorem s4_body (e : Env) (x : Sm) : (s4 e x).body = x.body := by cases x; rfl
theorem s5_els (e : Env) (x : Sm) : (s5 e x).els = x.els := by cases x; rfl
theorem s5_end (e : Env) (x : Sm) : (s5 e x).setEls (trSs e.g e.h x.els) = trS e.g e.h x := by cases x; rfl

set_option maxHeartbeats 4000000 in
theorem sl_any (e : Env) (ok : e.Ok) : ∀ (n : Nat) (es : List Sm), szo es = n → OkSs es → ∀ (oa : Option Addr) (cap : Nat) (S : List Nat) (w : World), SmRQ w oa cap es S → S.Nodup → e.in4 w → (∀ b ∈ e.E, b < w.heap.size) → (∀ b ∈ S, b ∉ e.E) →
    Ret Tryd.prog 68 ([] ++ [.slice oa es.length cap] ++ [e.pn, e.pa, e.pe, e.ps]) w fun v w' => v = .tuple #[] ∧ SmRQ w' oa cap (trSs e.g e.h es) S ∧ Chg S w w' := by
  intro n
  refine Nat.strongRecOn n fun n ih => ?_
  intro es hn hok oa cap S w hQ hSN hE hEl hd
  subst hn
  have hn := hok.1
  refine ret_of [_, _, _, _, _] Tryd.func68 rfl Tryd.ntmps68 rfl ?_
  have st := St.init w S
  clear st
  obtain ⟨w0, rfl⟩ : ∃ w0, w0 = w := ⟨_, rfl⟩
  have st := St.two (w := w0) (φ := fun w => SmRQ w oa cap es S) (ψ := e.in4) hQ hE hQ.lt hEl loc_sm (loc_of fun a b h hk => Env.in4.kept ok h hk) hd
  have hSM : ∀ k ∈ S, k ∈ S ∨ w0.heap.size ≤ k := fun k hk => .inl hk
  refine vc_seq ?_
  refine vc_region ?_
  refine vc_y rfl rfl (y_mv rfl) ?_
  refine vc_y rfl rfl (y_lensl rfl Tryd.underlying40) ?_
  refine vc_y rfl rfl (y_mv rfl) ?_
  refine vc_end ?_
  refine vq_then ?_
  refine vc_keep [(0, _), (1, _), (2, _), (3, _), (4, _), (9, _), (10, _)] ⟨rfl, rfl, rfl, rfl, rfl, rfl, rfl, trivial⟩ ?_
  refine vc_block ?_
  refine vc_loop (w0 := w0) (M := S) (fun (j : Nat) => [(0, .slice oa es.length cap), (1, e.pn), (2, e.pa), (3, e.pe), (4, e.ps), (9, .int .i64 (es.length : Int)), (10, .int .i64 (j : Int))]) (fun j => [.tree S (fun w => SmRQ w oa cap (mixL (trS e.g e.h) es j) S), .tree e.E e.in4]) (fun j _ => j ≤ es.length) (fun j => es.length - j) 0 ⟨rfl, rfl, rfl, rfl, rfl, rfl, rfl, trivial⟩ (by simpa only [mixL_zero] using st) (by omega) ?_
  clear st
  rintro j w hj st
  refine vc_seq ?_
  refine vc_region ?_
  refine vc_y rfl rfl (y_lss rfl rfl) ?_
  refine vc_end ?_
  refine vq_then ?_
  refine vc_keep [(0, _), (1, _), (2, _), (3, _), (4, _), (9, _), (10, _), (11, _)] ⟨rfl, rfl, rfl, rfl, rfl, rfl, rfl, rfl, trivial⟩ ?_
  refine vc_seq ?_
  refine vc_ifs rfl ?_ ?_
  · intro hc11
    try simp only [dn] at hc11
    obtain ⟨x, hx⟩ : ∃ x, es[j]? = some x := ⟨_, List.getElem?_eq_getElem (by omega)⟩
    have hkx := hok.2 j x hx
    have hz := mem_size hx
    have hzB : szo x.body < szo es := by have : szo x.body < szo x := by cases x; exact sm_size.1
                                         omega
    have hzL : szo x.els < szo es := by have : szo x.els < szo x := by cases x; exact sm_size.2
                                        omega
    have hm0 := mixL_get (f := trS e.g e.h) hx
    have hm1 : ((mixL (trS e.g e.h) es j).set j (s1 e x))[j]? = some (s1 e x) := set_get hm0
    have hm2 : ((mixL (trS e.g e.h) es j).set j (s2 e x))[j]? = some (s2 e x) := set_get hm0
    have hm3 : ((mixL (trS e.g e.h) es j).set j (s3 e x))[j]? = some (s3 e x) := set_get hm0
    have hm4 : ((mixL (trS e.g e.h) es j).set j (s4 e x))[j]? = some (s4 e x) := set_get hm0
    have hm5 : ((mixL (trS e.g e.h) es j).set j (s5 e x))[j]? = some (s5 e x) := set_get hm0
    have h12 : ((mixL (trS e.g e.h) es j).set j (s1 e x)).set j ((s1 e x).setOther (e.g x.other)) = ((mixL (trS e.g e.h) es j).set j (s2 e x)) := List.set_set ..
    have h23 : ((mixL (trS e.g e.h) es j).set j (s2 e x)).set j ((s2 e x).setAt (e.h x.a)) = ((mixL (trS e.g e.h) es j).set j (s3 e x)) := List.set_set ..
    have h34 : ((mixL (trS e.g e.h) es j).set j (s3 e x)).set j ((s3 e x).setE (trEs e.g e.h x.e)) = ((mixL (trS e.g e.h) es j).set j (s4 e x)) := List.set_set ..
    have h45 : ((mixL (trS e.g e.h) es j).set j (s4 e x)).set j ((s4 e x).setBody (trSs e.g e.h x.body)) = ((mixL (trS e.g e.h) es j).set j (s5 e x)) := List.set_set ..
    have h56 : ((mixL (trS e.g e.h) es j).set j (s5 e x)).set j ((s5 e x).setEls (trSs e.g e.h x.els)) = mixL (trS e.g e.h) es (j + 1) := by rw [List.set_set, s5_end]; exact mixL_step hx
    have stK := st
    obtain ⟨b, _, _, _, _, _, _, _, _, _, rfl, -⟩ := smR_focus (st.res (i := 0) rfl).1 hSN hm0
    have st := stK
    clear stK
    have hcell0 : ∀ w, SmRQ w (some ⟨b, 0, none⟩) cap (mixL (trS e.g e.h) es j) S → w.cell? ⟨b, j * 7 + 1, none⟩ = some (str x.nm) ∧ w.cell? ⟨b, j * 7 + 2, none⟩ = some (str x.other) ∧ w.cell? ⟨b, j * 7 + 6, none⟩ = some (.int .i64 x.a) := fun w h => by
      obtain ⟨b', _, _, _, _, _, _, _, _, _, hb', -, hc, -⟩ := smR_focus h hSN hm0
      simp only [Option.some.injEq, Addr.mk.injEq, and_true] at hb'
      subst hb'
      exact ⟨hc 1 _ rfl, hc 2 _ rfl, hc 6 _ rfl⟩
    refine vc_code_skip ?_
    refine vq_then ?_
    refine vc_keep [(0, _), (1, _), (2, _), (3, _), (4, _), (9, _), (10, _)] ⟨rfl, rfl, rfl, rfl, rfl, rfl, rfl, trivial⟩ ?_
    refine vc_seq ?_
    refine vc_block ?_
    refine vc_seq ?_
    refine vc_region ?_
    refine vc_y rfl rfl (y_mv rfl) ?_
    refine vc_y rfl rfl (y_as rfl) ?_
    refine vc_end ?_
    refine vq_then ?_
    refine vc_keep [(0, _), (1, _), (2, _), (3, _), (4, _), (6, _), (9, _), (10, _)] ⟨rfl, rfl, rfl, rfl, rfl, rfl, rfl, rfl, trivial⟩ ?_
    refine vc_seq ?_
    refine vc_region ?_
    refine vc_y rfl rfl (y_mv rfl) ?_
    refine vc_y rfl rfl (y_mv rfl) ?_
    refine vc_y rfl rfl ((by exact y_ia0 (k := j) rfl rfl Tryd.underlying40 Tryd.sizeOf70 rfl (by omega))) ?_
    refine vc_y rfl rfl (y_as rfl) ?_
    refine vc_end ?_
    refine vq_then ?_
    refine vc_keep [(0, _), (1, _), (2, _), (3, _), (4, _), (7, _), (9, _), (10, _)] ⟨rfl, rfl, rfl, rfl, rfl, rfl, rfl, rfl, trivial⟩ ?_
    refine vc_seq ?_
    refine vk_draw Tryd.mixed [(0, true), (1, true), (2, true), (4, true), (5, true), (6, true), (10, true), (11, true), (12, true), (16, true), (17, true), (18, true), (3, true), (7, true), (9, true), (13, true), (15, true), (19, true), (8, false), (14, false), (20, false), (21, true), (22, true), (23, false), (24, true), (25, true), (26, false), (27, true), (28, true), (29, false)] 23 (fun w => St _ _ [.tree S (fun w => SmRQ w (some ⟨b, 0, none⟩) cap (mixL (trS e.g e.h) es j) S), .tree e.E e.in4] w) (by exact st) (by kernel_rfl) (by repeat (first | exact okQ_body | refine okQ_then ?_ | refine okQ_block ?_)) rfl (by kernel_rfl) rfl ?_
    intro w cd; replace st := st.call0 cd; clear cd
    have hS : St _ _ [.tree S (fun w => SmRQ w (some ⟨b, 0, none⟩) cap (mixL (trS e.g e.h) es j) S), .tree e.E e.in4] w := (by exact st)
    refine vk_takeU rfl rfl rfl rfl (fun _ => hS) (fun w => y_mv rfl) ?_
    refine vk_takeU rfl rfl rfl rfl (fun _ => hS) (fun w => y_mv rfl) ?_
    refine vk_takeU rfl rfl rfl rfl (fun _ => hS) (fun w => y_mv rfl) ?_
    refine vk_takeU rfl rfl rfl rfl (fun _ => hS) (fun w => y_mv rfl) ?_
    refine vk_takeU rfl rfl rfl rfl (fun _ => hS) (fun w => y_nck rfl) ?_
    refine vk_takeU rfl rfl rfl rfl (fun _ => hS) (fun w => (by exact y_fa (k := 1) rfl Tryd.underlying70 rfl rfl Tryd.sizeOf9 rfl)) ?_
    refine vk_takeU rfl rfl rfl rfl (fun _ => hS) (fun w => y_mv rfl) ?_
    refine vk_takeU rfl rfl rfl rfl (fun _ => hS) (fun w => y_nck rfl) ?_
    refine vk_takeU rfl rfl rfl rfl (fun _ => hS) (fun w => (by exact y_fa (k := 2) rfl Tryd.underlying70 rfl rfl Tryd.sizeOf9 rfl)) ?_
    refine vk_takeU rfl rfl rfl rfl (fun _ => hS) (fun w => y_mv rfl) ?_
    refine vk_takeU rfl rfl rfl rfl (fun _ => hS) (fun w => y_nck rfl) ?_
    refine vk_takeU rfl rfl rfl rfl (fun _ => hS) (fun w => (by exact y_fa (k := 6) rfl Tryd.underlying70 rfl rfl Tryd.sizeOf3 rfl)) ?_
    refine vk_take rfl rfl rfl rfl hS (fun w st => (by exact y_ldc rfl Tryd.isAgg72 (cell_nth (st.res (i := 1) rfl).1.1.1.1 rfl))) ?_
    refine vk_take rfl rfl rfl rfl hS (fun w st => (by exact y_ldc rfl Tryd.isAgg9 (hcell0 _ (st.res (i := 0) rfl).1).1)) ?_
    refine vk_take rfl rfl rfl rfl hS (fun w st => (by exact y_ldc rfl Tryd.isAgg72 (cell_nth (st.res (i := 1) rfl).1.1.1.1 rfl))) ?_
    refine vk_take rfl rfl rfl rfl hS (fun w st => (by exact y_ldc rfl Tryd.isAgg9 (hcell0 _ (st.res (i := 0) rfl).1).2.1)) ?_
    refine vk_take rfl rfl rfl rfl hS (fun w st => (by exact y_ldc rfl Tryd.isAgg73 (cell_nth (st.res (i := 1) rfl).1.1.1.2.1 rfl))) ?_
    refine vk_take rfl rfl rfl rfl hS (fun w st => (by exact y_ldc rfl Tryd.isAgg3 (hcell0 _ (st.res (i := 0) rfl).1).2.2)) ?_
    refine vk_do rfl rfl (e_callv [_] rfl rfl rfl ok.calln rfl (ok.nm x.nm _ (st.res (i := 1) rfl).1.1.1.2.2) ?_)
    rintro _ _ ⟨rfl, rfl⟩
    refine vk_next (by exact st) ?_; intro hS
    refine vk_do rfl rfl (e_callv [_] rfl rfl rfl ok.calln rfl (ok.nm x.other _ (st.res (i := 1) rfl).1.1.1.2.2) ?_)
    rintro _ _ ⟨rfl, rfl⟩
    refine vk_next (by exact st) ?_; intro hS
    refine vk_do rfl rfl (e_callv [_] rfl rfl rfl ok.calla rfl (ok.at_ x.a _ (st.res (i := 1) rfl).1.1.1.2.2) ?_)
    rintro _ _ ⟨rfl, rfl⟩
    refine vk_next (by exact st) ?_; intro hS
    refine vk_takeU rfl rfl rfl rfl (fun _ => hS) (fun w => y_nck rfl) ?_
    refine vk_takeU rfl rfl rfl rfl (fun _ => hS) (fun w => (by exact y_fa (k := 1) rfl Tryd.underlying70 rfl rfl Tryd.sizeOf9 rfl)) ?_
    obtain ⟨b1, oe1, ce1, ob1, cb1, ol1, cl1, Se1, Sb1, Sl1, hb1, r1, k1, qe1, qb1, ql1, ne1, nb1, nl1, ue1, ub1, ul1, z1, z2, z3, pe1, pb1, pl1⟩ := smR_focus (st.res (i := 0) rfl).1 hSN hm0
    simp only [Option.some.injEq, Addr.mk.injEq, and_true] at hb1
    subst hb1
    refine vk_do rfl rfl (e_stT st 0 (ψ := fun w => SmRQ w (some ⟨b, 0, none⟩) cap ((mixL (trS e.g e.h) es j).set j (s1 e x)) S) rfl rfl rfl rfl Tryd.sizeOf9 rfl r1.mem (hSM _ r1.mem) ⟨_, k1 1 _ rfl⟩ (r1.fz _) (z1 _) loc_sm ?_)
    intro w st; dsimp only [setNth] at st
    refine vk_late ?_
    refine vk_takeU rfl rfl rfl rfl (fun h => by cases h) (fun w => y_nck rfl) ?_
    refine vk_takeU rfl rfl rfl rfl (fun h => by cases h) (fun w => (by exact y_fa (k := 2) rfl Tryd.underlying70 rfl rfl Tryd.sizeOf9 rfl)) ?_
    clear z1 z2 z3
    obtain ⟨b2, oe2, ce2, ob2, cb2, ol2, cl2, Se2, Sb2, Sl2, hb2, r2, k2, qe2, qb2, ql2, ne2, nb2, nl2, ue2, ub2, ul2, z1, z2, z3, pe2, pb2, pl2⟩ := smR_focus (st.res (i := 0) rfl).1 hSN hm1
    simp only [Option.some.injEq, Addr.mk.injEq, and_true] at hb2
    subst hb2
    refine vk_do rfl rfl (e_stT st 0 (ψ := fun w => SmRQ w (some ⟨b, 0, none⟩) cap ((mixL (trS e.g e.h) es j).set j (s2 e x)) S) rfl rfl rfl rfl Tryd.sizeOf9 rfl r2.mem (hSM _ r2.mem) ⟨_, k2 2 _ rfl⟩ (r2.fz _) (h12 ▸ z2 _) loc_sm ?_)
    intro w st; dsimp only [setNth] at st
    refine vk_late ?_
    refine vk_takeU rfl rfl rfl rfl (fun h => by cases h) (fun w => y_nck rfl) ?_
    refine vk_takeU rfl rfl rfl rfl (fun h => by cases h) (fun w => (by exact y_fa (k := 6) rfl Tryd.underlying70 rfl rfl Tryd.sizeOf3 rfl)) ?_
    clear z1 z2 z3
    obtain ⟨b3, oe3, ce3, ob3, cb3, ol3, cl3, Se3, Sb3, Sl3, hb3, r3, k3, qe3, qb3, ql3, ne3, nb3, nl3, ue3, ub3, ul3, z1, z2, z3, pe3, pb3, pl3⟩ := smR_focus (st.res (i := 0) rfl).1 hSN hm2
    simp only [Option.some.injEq, Addr.mk.injEq, and_true] at hb3
    subst hb3
    refine vk_do rfl rfl (e_stT st 0 (ψ := fun w => SmRQ w (some ⟨b, 0, none⟩) cap ((mixL (trS e.g e.h) es j).set j (s3 e x)) S) rfl rfl rfl rfl Tryd.sizeOf3 rfl r3.mem (hSM _ r3.mem) ⟨_, k3 6 _ rfl⟩ (r3.fz _) (h23 ▸ z3 _) loc_sm ?_)
    intro w st; dsimp only [setNth] at st
    refine vk_late ?_
    refine vk_end ?_
    refine vq_then ?_
    refine vc_keep [(0, _), (1, _), (2, _), (3, _), (4, _), (7, _), (9, _), (10, _)] ⟨rfl, rfl, rfl, rfl, rfl, rfl, rfl, rfl, trivial⟩ ?_
    refine vc_seq ?_
    refine vk_draw Tryd.mixed [(1, true), (2, true), (3, true), (0, true), (4, false), (5, false)] 5 (fun w => St _ _ [.tree S (fun w => SmRQ w (some ⟨b, 0, none⟩) cap ((mixL (trS e.g e.h) es j).set j (s3 e x)) S), .tree e.E e.in4] w) (by exact st) (by kernel_rfl) (by repeat (first | exact okQ_body | refine okQ_then ?_ | refine okQ_block ?_)) rfl (by kernel_rfl) rfl ?_
    intro w cd; replace st := st.call0 cd; clear cd
    have hS : St _ _ [.tree S (fun w => SmRQ w (some ⟨b, 0, none⟩) cap ((mixL (trS e.g e.h) es j).set j (s3 e x)) S), .tree e.E e.in4] w := (by exact st)
    refine vk_takeU rfl rfl rfl rfl (fun _ => hS) (fun w => y_mv rfl) ?_
    refine vk_takeU rfl rfl rfl rfl (fun _ => hS) (fun w => y_nck rfl) ?_
    refine vk_takeU rfl rfl rfl rfl (fun _ => hS) (fun w => (by exact y_fa (k := 3) rfl Tryd.underlying70 rfl rfl Tryd.sizeOf61 rfl)) ?_
    refine vk_take rfl rfl rfl rfl hS (fun w st => (by exact y_ldc rfl Tryd.isAgg77 (cell_nth (st.res (i := 1) rfl).1.1.2 rfl))) ?_
    obtain ⟨b4, oe4, ce4, ob4, cb4, ol4, cl4, Se4, Sb4, Sl4, hb4, r4, k4, qe4, qb4, ql4, ne4, nb4, nl4, ue4, ub4, ul4, z1, z2, z3, pe4, pb4, pl4⟩ := smR_focus (st.res (i := 0) rfl).1 hSN hm3
    simp only [Option.some.injEq, Addr.mk.injEq, and_true] at hb4
    subst hb4
    rw [s3_e] at qe4
    refine vk_do rfl rfl (e_run rfl rfl ((by exact y_ldc rfl Tryd.isAgg61 (k4 3 (.slice oe4 x.e.length ce4) (by rw [s3_e]; rfl)))) ?_)
    refine vk_next (by exact st) ?_; intro hS
    refine vk_do rfl rfl (e_callv [_] rfl rfl rfl Tryd.call67 rfl (el_any e ok _ x.e rfl hkx.e oe4 ce4 Se4 _ qe4 ne4 (st.res (i := 1) rfl).1.1 (st.res (i := 1) rfl).2.1 (fun k hk => hd k (ue4 k hk))) ?_)
    rintro _ w ⟨rfl, hq, hc⟩
    replace st := st.within (ψ := fun w => SmRQ w (some ⟨b, 0, none⟩) cap ((mixL (trS e.g e.h) es j).set j (s4 e x)) S) hc ue4 hSM (h34 ▸ pe4 w (trEs e.g e.h x.e) (by rw [trEs_len, s3_e]) hq hc) loc_sm
    refine vk_late ?_
    refine vk_end ?_
    refine vq_then ?_
    refine vc_keep [(0, _), (1, _), (2, _), (3, _), (4, _), (7, _), (9, _), (10, _)] ⟨rfl, rfl, rfl, rfl, rfl, rfl, rfl, rfl, trivial⟩ ?_
    refine vc_seq ?_
    refine vk_draw Tryd.mixed [(1, true), (2, true), (3, true), (0, true), (4, false), (5, false)] 5 (fun w => St _ _ [.tree S (fun w => SmRQ w (some ⟨b, 0, none⟩) cap ((mixL (trS e.g e.h) es j).set j (s4 e x)) S), .tree e.E e.in4] w) (by exact st) (by kernel_rfl) (by repeat (first | exact okQ_body | refine okQ_then ?_ | refine okQ_block ?_)) rfl (by kernel_rfl) rfl ?_
    intro w cd; replace st := st.call0 cd; clear cd
    have hS : St _ _ [.tree S (fun w => SmRQ w (some ⟨b, 0, none⟩) cap ((mixL (trS e.g e.h) es j).set j (s4 e x)) S), .tree e.E e.in4] w := (by exact st)
    refine vk_takeU rfl rfl rfl rfl (fun _ => hS) (fun w => y_mv rfl) ?_
    refine vk_takeU rfl rfl rfl rfl (fun _ => hS) (fun w => y_nck rfl) ?_
    refine vk_takeU rfl rfl rfl rfl (fun _ => hS) (fun w => (by exact y_fa (k := 4) rfl Tryd.underlying70 rfl rfl Tryd.sizeOf40 rfl)) ?_
    refine vk_take rfl rfl rfl rfl hS (fun w st => (by exact y_ldc rfl Tryd.isAgg78 (cell_nth (st.res (i := 1) rfl).1.2 rfl))) ?_
    obtain ⟨b5, oe5, ce5, ob5, cb5, ol5, cl5, Se5, Sb5, Sl5, hb5, r5, k5, qe5, qb5, ql5, ne5, nb5, nl5, ue5, ub5, ul5, z1, z2, z3, pe5, pb5, pl5⟩ := smR_focus (st.res (i := 0) rfl).1 hSN hm4
    simp only [Option.some.injEq, Addr.mk.injEq, and_true] at hb5
    subst hb5
    rw [s4_body] at qb5
    refine vk_do rfl rfl (e_run rfl rfl ((by exact y_ldc rfl Tryd.isAgg40 (k5 4 (.slice ob5 x.body.length cb5) (by rw [s4_body]; rfl)))) ?_)
    refine vk_next (by exact st) ?_; intro hS
    refine vk_do rfl rfl (e_callv [_] rfl rfl rfl Tryd.call68 rfl (ih _ hzB x.body rfl hkx.body ob5 cb5 Sb5 _ qb5 nb5 (st.res (i := 1) rfl).1 (st.res (i := 1) rfl).2.1 (fun k hk => hd k (ub5 k hk))) ?_)
    rintro _ w ⟨rfl, hq, hc⟩
    replace st := st.within (ψ := fun w => SmRQ w (some ⟨b, 0, none⟩) cap ((mixL (trS e.g e.h) es j).set j (s5 e x)) S) hc ub5 hSM (h45 ▸ pb5 w (trSs e.g e.h x.body) (by rw [trSs_len, s4_body]) hq hc) loc_sm
    refine vk_late ?_
    refine vk_end ?_
    refine vq_then ?_
    refine vc_keep [(0, _), (1, _), (2, _), (3, _), (4, _), (7, _), (9, _), (10, _)] ⟨rfl, rfl, rfl, rfl, rfl, rfl, rfl, rfl, trivial⟩ ?_
    refine vk_draw Tryd.mixed [(1, true), (2, true), (3, true), (0, true), (4, false), (5, false)] 5 (fun w => St _ _ [.tree S (fun w => SmRQ w (some ⟨b, 0, none⟩) cap ((mixL (trS e.g e.h) es j).set j (s5 e x)) S), .tree e.E e.in4] w) (by exact st) (by kernel_rfl) (by repeat (first | exact okQ_body | refine okQ_then ?_ | refine okQ_block ?_)) rfl (by kernel_rfl) rfl ?_
    intro w cd; replace st := st.call0 cd; clear cd
    have hS : St _ _ [.tree S (fun w => SmRQ w (some ⟨b, 0, none⟩) cap ((mixL (trS e.g e.h) es j).set j (s5 e x)) S), .tree e.E e.in4] w := (by exact st)
    refine vk_takeU rfl rfl rfl rfl (fun _ => hS) (fun w => y_mv rfl) ?_
    refine vk_takeU rfl rfl rfl rfl (fun _ => hS) (fun w => y_nck rfl) ?_
    refine vk_takeU rfl rfl rfl rfl (fun _ => hS) (fun w => (by exact y_fa (k := 5) rfl Tryd.underlying70 rfl rfl Tryd.sizeOf40 rfl)) ?_
    refine vk_take rfl rfl rfl rfl hS (fun w st => (by exact y_ldc rfl Tryd.isAgg78 (cell_nth (st.res (i := 1) rfl).1.2 rfl))) ?_
    obtain ⟨b6, oe6, ce6, ob6, cb6, ol6, cl6, Se6, Sb6, Sl6, hb6, r6, k6, qe6, qb6, ql6, ne6, nb6, nl6, ue6, ub6, ul6, z1, z2, z3, pe6, pb6, pl6⟩ := smR_focus (st.res (i := 0) rfl).1 hSN hm5
    simp only [Option.some.injEq, Addr.mk.injEq, and_true] at hb6
    subst hb6
    rw [s5_els] at ql6
    refine vk_do rfl rfl (e_run rfl rfl ((by exact y_ldc rfl Tryd.isAgg40 (k6 5 (.slice ol6 x.els.length cl6) (by rw [s5_els]; rfl)))) ?_)
    refine vk_next (by exact st) ?_; intro hS
    refine vk_do rfl rfl (e_callv [_] rfl rfl rfl Tryd.call68 rfl (ih _ hzL x.els rfl hkx.els ol6 cl6 Sl6 _ ql6 nl6 (st.res (i := 1) rfl).1 (st.res (i := 1) rfl).2.1 (fun k hk => hd k (ul6 k hk))) ?_)
    rintro _ w ⟨rfl, hq, hc⟩
    replace st := st.within (ψ := fun w => SmRQ w (some ⟨b, 0, none⟩) cap (mixL (trS e.g e.h) es (j + 1)) S) hc ul6 hSM (h56 ▸ pl6 w (trSs e.g e.h x.els) (by rw [trSs_len, s5_els]) hq hc) loc_sm
    refine vk_late ?_
    refine vk_end ?_
    refine vq_block ?_
    refine vq_then ?_
    refine vc_keep [(0, _), (1, _), (2, _), (3, _), (4, _), (9, _), (10, _)] ⟨rfl, rfl, rfl, rfl, rfl, rfl, rfl, trivial⟩ ?_
    refine vc_region ?_
    refine vc_y rfl rfl (y_add rfl rfl (by omega : _ = ((j + 1 : Nat) : Int)) (by omega) (by omega)) ?_
    refine vc_y rfl rfl (y_mv rfl) ?_
    refine vc_end ?_
    refine vq_again (j + 1)  ⟨rfl, rfl, rfl, rfl, rfl, rfl, rfl, trivial⟩ st ?_ ?_
    · omega
    · omega
  · intro hc11
    try simp only [dn] at hc11
    refine vc_exit ?_
    refine vq_then_exit ?_
    refine vq_then_exit ?_
    refine vq_block_exit ?_
    refine vq_ret0 (.inr rfl) Tryd.results68 ?_
    refine ⟨_, rfl, ?_⟩
    obtain rfl : j = es.length := by omega
    rw [mixL_all, ← trSs_map] at st
    exact ⟨rfl, (st.res (i := 0) rfl).1, st.chg⟩

end Go.Proofs.YtnmhlpnapgojjaaDoor


namespace Go.Proofs.YtnmhlpnapgojjaaDoor
open Go.RowKit Sx LexS
set_option linter.unusedVariables false
set_option linter.unusedSimpArgs false
section
variable {n0 : Nat}

set_option maxHeartbeats 2000000 in
theorem pcopyP_any (p : Pg) (hok : OkP p) (os ol ot : Option Addr) (cs cl ct : Nat) (w : World) (hSh : DcRow w (· < n0) os p.shared) (hL : DcRow w (· < n0) ol p.locks) (hT : ThRow w (· < n0) ot p.threads) (hn0 : n0 ≤ w.heap.size) :
    Ret Tryd.prog 65 [.agg (pgL p os ol ot cs cl ct).toArray] w fun v w' => ∃ l S, v = .agg l.toArray ∧ PgQ w' p l S ∧ Nw w.heap.size S ∧ Chg [] w w' := by
  refine ret_of [_] Tryd.func65 rfl Tryd.ntmps65 rfl ?_
  have st := St.init w []
  obtain ⟨w0, rfl⟩ : ∃ w0, w0 = w := ⟨_, rfl⟩
  have hn1 := hok.1.1
  have hn2 := hok.2.1.1
  have hn3 := hok.2.2.1
  refine vc_seq ?_
  refine vc_region ?_
  refine vc_e (e_bx (l := [_, _, _]) st rfl rfl rfl rfl ?_)
  intro b1 w hb1 st
  refine vc_e (e_al (l := [_, _, _]) st rfl rfl Tryd.zeroValue25 rfl ?_)
  intro b2 w hb2 st
  refine vc_end ?_
  refine vq_then ?_
  refine vc_keep [(1, _), (2, _)] ⟨rfl, rfl, trivial⟩ ?_
  refine vc_cut (w0 := w0) (M := []) (fun (z : Option Addr × Nat × Option Addr × Nat × Nat) => [(1, .pointer (some ⟨b1, 0, none⟩)), (2, .pointer (some ⟨b2, 0, none⟩)), (3, .pointer (some ⟨z.2.2.2.2, 0, none⟩))]) (fun z => [.blk z.2.2.2.2 (.cells [.slice z.1 p.shared.length z.2.1, .slice z.2.2.1 p.locks.length z.2.2.2.1, .slice none 0 0].toArray 25 (0, 0)), .own (.slice z.1 p.shared.length z.2.1) 67 3 p.shared.length (p.shared.flatMap dcL), .own (.slice z.2.2.1 p.locks.length z.2.2.2.1) 67 3 p.locks.length (p.locks.flatMap dcL), .blk b2 (.cells [.slice none 0 0, .slice none 0 0, .slice none 0 0].toArray 25 (0, 0)), .blk b1 (.cells (pgL p os ol ot cs cl ct).toArray 25 (0, 0))]) (fun z _ => w0.heap.size ≤ z.2.2.2.2) ?_ ?_
  ·
    refine vd_draw Tryd.mixed (.take 0 (.take 1 (.take 3 (.take 4 (.two 2 7 (.two 5 7 (.take 6 (.one 7 (.one 8 .done))) (.one 5 (.take 6 (.one 8 .done)))) (.one 2 (.one 5 (.take 6 (.one 8 .done))))))))) (fun w => St _ _ [.blk b2 (.cells [.slice none 0 0, .slice none 0 0, .slice none 0 0].toArray 25 (0, 0)), .blk b1 (.cells (pgL p os ol ot cs cl ct).toArray 25 (0, 0))] w) (by exact st) (by kernel_rfl) (by repeat (first | exact okQ_body | refine okQ_then ?_ | refine okQ_block ?_)) rfl (by kernel_rfl) ?_
    intro w cd; replace st := st.call0 cd; clear cd
    have hS : St _ _ [.blk b2 (.cells [.slice none 0 0, .slice none 0 0, .slice none 0 0].toArray 25 (0, 0)), .blk b1 (.cells (pgL p os ol ot cs cl ct).toArray 25 (0, 0))] w := (by exact st)
    refine vd_take rfl rfl rfl hS (fun w st => y_fa0 rfl Tryd.underlying25 rfl rfl Tryd.sizeOf22 rfl) ?_
    refine vd_take rfl rfl rfl hS (fun w st => (by exact y_ld st 1 rfl Tryd.isAgg22 rfl rfl)) ?_
    refine vd_take rfl rfl rfl hS (fun w st => (by exact y_faz (k := 1) rfl Tryd.underlying25 rfl rfl Tryd.sizeOf22 rfl)) ?_
    refine vd_take rfl rfl rfl hS (fun w st => (by exact y_ld st 1 rfl Tryd.isAgg22 rfl rfl)) ?_
    refine vd_two rfl rfl ?_ ?_
    ·
      replace st := st.ownNil 67 3
      refine (e_appr (bytes := 32) (len' := p.shared.length) (ys := p.shared.flatMap dcL) st 0 rfl rfl rfl rfl rfl (DcRow.rd (S := (· < n0)) (RowC.kept hSh (Same.of_nil st.chg))) Tryd.underlying22 Tryd.info67 rfl rfl rfl rfl rfl (dcs_len p.shared) (dcs_one p.shared) (by unfold maxLen; omega) (by omega) (by omega) (by simp) ?_)
      intro s1o s1c w st; dsimp only [setNth] at st
      refine vd_next (by exact st.drop (by repeat (first | exact sl0 | apply sl1 | apply sl2))) ?_; intro hS
      refine vd_two rfl rfl ?_ ?_
      ·
        replace st := st.ownNil 67 3
        refine (e_appr (bytes := 32) (len' := p.locks.length) (ys := p.locks.flatMap dcL) st 0 rfl rfl rfl rfl rfl (DcRow.rd (S := (· < n0)) (RowC.kept hL (Same.of_nil st.chg))) Tryd.underlying22 Tryd.info67 rfl rfl rfl rfl rfl (dcs_len p.locks) (dcs_one p.locks) (by unfold maxLen; omega) (by omega) (by omega) (by simp) ?_)
        intro s2o s2c w st; dsimp only [setNth] at st
        refine vd_next (by exact st.drop (by repeat (first | exact sl0 | apply sl1 | apply sl2))) ?_; intro hS
        refine vd_take rfl rfl rfl hS (fun w st => y_bld (.agg #[_, _, _]) [(0, _), (1, _)] rfl (fun w => by simp [Instr.build, go_sem] <;> repeat' constructor)) ?_
        refine vd_do rfl (e_al (l := [_, _, _]) st rfl rfl Tryd.zeroValue25 rfl ?_)
        intro b3 w hb3 st
        refine vd_next (by exact st.drop (by repeat (first | exact sl0 | apply sl1 | apply sl2))) ?_; intro hS
        refine vd_do rfl (e_sts (vs := [_, _, _]) st 0 rfl rfl rfl rfl rfl Tryd.sizeOf25 rfl rfl (by first | (right; assumption) | (left; simp)) ?_)
        intro w st; dsimp only [setNth, wr] at st
        refine vd_next (by exact st.drop (by repeat (first | exact sl0 | apply sl1 | apply sl2))) ?_; intro hS
        refine vd_end ?_
        refine vq_meet (s1o, s1c, s2o, s2c, b3) ⟨rfl, rfl, rfl, trivial⟩ (by exact st.pick [0, 2, 1, 3, 4] rfl (by decide)) ?_
        · assumption
      ·
        refine (e_al (l := [_, _, _]) st rfl rfl Tryd.zeroValue25 rfl ?_)
        intro b3 w hb3 st
        refine vd_next (by exact st.drop (by repeat (first | exact sl0 | apply sl1 | apply sl2))) ?_; intro hS
        replace st := st.ownNil 67 3
        replace st := st.ownNil 67 3
        refine vd_do rfl (e_appr (bytes := 32) (len' := p.locks.length) (ys := p.locks.flatMap dcL) st 0 rfl rfl rfl rfl rfl (DcRow.rd (S := (· < n0)) (RowC.kept hL (Same.of_nil st.chg))) Tryd.underlying22 Tryd.info67 rfl rfl rfl rfl rfl (dcs_len p.locks) (dcs_one p.locks) (by unfold maxLen; omega) (by omega) (by omega) (by simp) ?_)
        intro s2o s2c w st; dsimp only [setNth] at st
        refine vd_next (by exact st.drop (by repeat (first | exact sl0 | apply sl1 | apply sl2))) ?_; intro hS
        refine vd_take rfl rfl rfl hS (fun w st => y_bld (.agg #[_, _, _]) [(0, _), (1, _)] rfl (fun w => by simp [Instr.build, go_sem] <;> repeat' constructor)) ?_
        refine vd_do rfl (e_sts (vs := [_, _, _]) st 2 rfl rfl rfl rfl rfl Tryd.sizeOf25 rfl rfl (by first | (right; assumption) | (left; simp)) ?_)
        intro w st; dsimp only [setNth, wr] at st
        refine vd_next (by exact st.drop (by repeat (first | exact sl0 | apply sl1 | apply sl2))) ?_; intro hS
        refine vd_end ?_
        refine vq_meet (s1o, s1c, s2o, s2c, b3) ⟨rfl, rfl, rfl, trivial⟩ (by exact st.pick [2, 3, 0, 4, 5] rfl (by decide)) ?_
        · assumption
    ·
      refine (e_al (l := [_, _, _]) st rfl rfl Tryd.zeroValue25 rfl ?_)
      intro b3 w hb3 st
      refine vd_next (by exact st.drop (by repeat (first | exact sl0 | apply sl1 | apply sl2))) ?_; intro hS
      replace st := st.ownNil 67 3
      replace st := st.ownNil 67 3
      refine vd_do rfl (e_appr (bytes := 32) (len' := p.shared.length) (ys := p.shared.flatMap dcL) st 0 rfl rfl rfl rfl rfl (DcRow.rd (S := (· < n0)) (RowC.kept hSh (Same.of_nil st.chg))) Tryd.underlying22 Tryd.info67 rfl rfl rfl rfl rfl (dcs_len p.shared) (dcs_one p.shared) (by unfold maxLen; omega) (by omega) (by omega) (by simp) ?_)
      intro s1o s1c w st; dsimp only [setNth] at st
      refine vd_next (by exact st.drop (by repeat (first | exact sl0 | apply sl1 | apply sl2))) ?_; intro hS
      replace st := st.ownNil 67 3
      replace st := st.ownNil 67 3
      refine vd_do rfl (e_appr (bytes := 32) (len' := p.locks.length) (ys := p.locks.flatMap dcL) st 0 rfl rfl rfl rfl rfl (DcRow.rd (S := (· < n0)) (RowC.kept hL (Same.of_nil st.chg))) Tryd.underlying22 Tryd.info67 rfl rfl rfl rfl rfl (dcs_len p.locks) (dcs_one p.locks) (by unfold maxLen; omega) (by omega) (by omega) (by simp) ?_)
      intro s2o s2c w st; dsimp only [setNth] at st
      refine vd_next (by exact st.drop (by repeat (first | exact sl0 | apply sl1 | apply sl2))) ?_; intro hS
      refine vd_take rfl rfl rfl hS (fun w st => y_bld (.agg #[_, _, _]) [(0, _), (1, _)] rfl (fun w => by simp [Instr.build, go_sem] <;> repeat' constructor)) ?_
      refine vd_do rfl (e_sts (vs := [_, _, _]) st 4 rfl rfl rfl rfl rfl Tryd.sizeOf25 rfl rfl (by first | (right; assumption) | (left; simp)) ?_)
      intro w st; dsimp only [setNth, wr] at st
      refine vd_next (by exact st.drop (by repeat (first | exact sl0 | apply sl1 | apply sl2))) ?_; intro hS
      refine vd_end ?_
      refine vq_meet (s1o, s1c, s2o, s2c, b3) ⟨rfl, rfl, rfl, trivial⟩ (by exact st.pick [4, 2, 0, 5, 6] rfl (by decide)) ?_
      · assumption
  ·
    clear st
    rintro ⟨s1o, s1c, s2o, s2c, b3⟩ w hb3 st
    dsimp only at *
    refine vc_seq ?_
    refine vc_seq ?_
    refine vc_region ?_
    replace st := St.pushR (r := .tree [] (fun w => ThSs 63 70 67 w [] [] [])) st (Chg.refl _ _) (holds_of (by simp [ThSs]) (by simp) (fun a b h hk => h.kept hk)) (by simp [Res.at?])
    replace st := st.ownNil 42 4
    refine vc_y rfl rfl ((by exact y_faz (k := 2) rfl Tryd.underlying25 rfl rfl Tryd.sizeOf23 rfl)) ?_
    refine vc_y rfl rfl ((by exact y_ld st 6 rfl Tryd.isAgg23 rfl rfl)) ?_
    refine vc_y rfl rfl (y_lensl rfl Tryd.underlying23) ?_
    refine vc_y rfl rfl (y_mv rfl) ?_
    refine vc_end ?_
    refine vq_then ?_
    refine vc_keep [(2, _), (3, _), (14, _), (15, _), (16, _)] ⟨rfl, rfl, rfl, rfl, rfl, trivial⟩ ?_
    refine vc_block ?_
    refine vc_loop (w0 := w0) (M := []) (fun (y : Nat × Option Addr × Nat × List Value × List Nat) => [(2, .pointer (some ⟨b2, 0, none⟩)), (3, .pointer (some ⟨b3, 0, none⟩)), (14, .slice ot p.threads.length ct), (15, .int .i64 (p.threads.length : Int)), (16, .int .i64 (y.1 : Int))]) (fun y => [.own (.slice y.2.1 y.1 y.2.2.1) 42 4 y.1 y.2.2.2.1, .tree y.2.2.2.2 (fun w => ThSs 63 70 67 w (p.threads.take y.1) y.2.2.2.1 y.2.2.2.2), .blk b3 (.cells [.slice s1o p.shared.length s1c, .slice s2o p.locks.length s2c, .slice y.2.1 y.1 y.2.2.1].toArray 25 (0, 0)), .own (.slice s1o p.shared.length s1c) 67 3 p.shared.length (p.shared.flatMap dcL), .own (.slice s2o p.locks.length s2c) 67 3 p.locks.length (p.locks.flatMap dcL), .blk b2 (.cells [.slice none 0 0, .slice none 0 0, .slice none 0 0].toArray 25 (0, 0))]) (fun y _ => y.1 ≤ p.threads.length ∧ Nw w0.heap.size y.2.2.2.2) (fun y => p.threads.length - y.1) (0, none, 0, [], []) ⟨rfl, rfl, rfl, rfl, rfl, trivial⟩ (by simpa using st.pick [0, 1, 2, 3, 4, 5] rfl (by decide)) ⟨by simp, Nw.nil⟩ ?_
    clear st
    rintro ⟨j, oj, cj, xs, S⟩ w ⟨hj, hSS⟩ st
    dsimp only at *
    refine vc_seq ?_
    refine vc_region ?_
    refine vc_y rfl rfl (y_lss rfl rfl) ?_
    refine vc_end ?_
    refine vq_then ?_
    refine vc_keep [(2, _), (3, _), (14, _), (15, _), (16, _), (17, _)] ⟨rfl, rfl, rfl, rfl, rfl, rfl, trivial⟩ ?_
    refine vc_seq ?_
    refine vc_ifs rfl ?_ ?_
    · intro hc17
      try simp only [dn] at hc17
      have stK := st
      obtain ⟨t, htj⟩ : ∃ t, p.threads[j]? = some t := ⟨_, List.getElem?_eq_getElem (by omega)⟩
      obtain ⟨gb, go, rfl, hgS, hgl, hg⟩ := ThRow.at hT (by omega)
      obtain ⟨tl, tb, cll, cbb, htl, htb, hc⟩ := hg j t htj
      have hkt := hok.2.2.2 j t htj
      have st := stK
      clear stK
      refine vc_code_skip ?_
      refine vq_then ?_
      refine vc_keep [(2, _), (3, _), (14, _), (15, _), (16, _)] ⟨rfl, rfl, rfl, rfl, rfl, trivial⟩ ?_
      refine vc_seq ?_
      refine vc_block ?_
      refine vc_seq ?_
      refine vc_region ?_
      refine vc_y rfl rfl ((by exact y_ia (k := j) rfl rfl Tryd.underlying23 Tryd.sizeOf42 rfl (by omega))) ?_
      refine vc_y rfl rfl ((by exact y_ldca (thL t tl tb cll cbb) rfl Tryd.isAgg42 Tryd.sizeOf42 rfl (fun i v hi => st.chg.cell (hc i v hi) (by simp)))) ?_
      refine vc_e (e_al (l := [_, _, _, _]) st rfl rfl Tryd.zeroValue42 rfl ?_)
      intro b5 w hb5 st
      refine vc_e (e_sts (vs := [_, _, _, _]) st 0 rfl rfl rfl rfl rfl Tryd.sizeOf42 rfl rfl (by first | (right; assumption) | (left; simp)) ?_)
      intro w st; dsimp only [setNth, wr] at st
      refine vc_end ?_
      refine vq_then ?_
      refine vc_keep [(2, _), (3, _), (5, _), (14, _), (15, _), (16, _)] ⟨rfl, rfl, rfl, rfl, rfl, rfl, trivial⟩ ?_
      refine vc_seq ?_
      refine vc_region ?_
      refine vc_y rfl rfl ((by exact y_faz (k := 1) rfl Tryd.underlying42 rfl rfl Tryd.sizeOf22 rfl)) ?_
      refine vc_y rfl rfl ((by exact y_ld st 0 rfl Tryd.isAgg22 rfl rfl)) ?_
      replace st := st.ownNil 67 3
      have hn5 := hkt.1.1
      refine vc_e (e_appr (bytes := 32) (len' := t.locals.length) (ys := t.locals.flatMap dcL) st 0 rfl rfl rfl rfl rfl (DcRow.rd (S := (· < n0)) (RowC.kept htl (Same.of_nil st.chg))) Tryd.underlying22 Tryd.info67 rfl rfl rfl rfl rfl (dcs_len t.locals) (dcs_one t.locals) (by unfold maxLen; omega) (by omega) (by omega) (by simp) ?_)
      intro s3o s3c w st; dsimp only [setNth] at st
      refine vc_y rfl rfl ((by exact y_faz (k := 1) rfl Tryd.underlying42 rfl rfl Tryd.sizeOf22 rfl)) ?_
      refine vc_e (e_st st 1 rfl rfl rfl rfl Tryd.sizeOf22 rfl rfl (by first | (right; assumption) | (left; simp)) ?_)
      intro w st; dsimp only [setNth, wr] at st
      refine vc_end ?_
      refine vq_then ?_
      refine vc_keep [(2, _), (3, _), (5, _), (14, _), (15, _), (16, _)] ⟨rfl, rfl, rfl, rfl, rfl, rfl, trivial⟩ ?_
      refine vc_seq ?_
      refine vc_region ?_
      refine vc_y rfl rfl ((by exact y_faz (k := 2) rfl Tryd.underlying42 rfl rfl Tryd.sizeOf40 rfl)) ?_
      refine vc_y rfl rfl ((by exact y_ld st 1 rfl Tryd.isAgg40 rfl rfl)) ?_
      refine vc_e (e_call [_] rfl rfl Tryd.call98 rfl (pcopyS_any _ t.body rfl hkt.2.1 _ _ _ (htb.kept (Same.of_nil st.chg)) (Nat.le_trans hn0 st.chg.size)) ?_)
      rintro _ w ⟨s4o, s4c, S4, rfl, hQ, hN, cw⟩
      have hN4 := hN.le st.chg.size
      replace st := St.pushR (r := .tree S4 (fun w => SmRQ w s4o s4c t.body S4)) st cw (holds_of hQ hQ.lt (fun a b h hk => h.kept hk)) hN.2
      refine vc_y rfl rfl ((by exact y_faz (k := 2) rfl Tryd.underlying42 rfl rfl Tryd.sizeOf40 rfl)) ?_
      refine vc_e (e_st st 2 rfl rfl rfl rfl Tryd.sizeOf40 rfl rfl (by first | (right; assumption) | (left; simp)) ?_)
      intro w st; dsimp only [setNth, wr] at st
      refine vc_end ?_
      refine vq_then ?_
      refine vc_keep [(2, _), (3, _), (5, _), (14, _), (15, _), (16, _)] ⟨rfl, rfl, rfl, rfl, rfl, rfl, trivial⟩ ?_
      refine vc_region ?_
      refine vc_y rfl rfl ((by exact y_faz (k := 2) rfl Tryd.underlying25 rfl rfl Tryd.sizeOf23 rfl)) ?_
      refine vc_y rfl rfl ((by exact y_ld st 5 rfl Tryd.isAgg23 rfl rfl)) ?_
      refine vc_y rfl rfl ((by exact y_lda (vs := [_, _, _, _]) st 2 rfl Tryd.isAgg42 Tryd.sizeOf42 rfl rfl)) ?_
      refine vc_e (e_bs1 (l := [_, _, _, _]) st rfl rfl rfl rfl Tryd.underlying23 Tryd.sizeOf42 rfl rfl rfl Tryd.zeroValue42 ?_)
      intro b31 w hb31 st
      refine vc_e (e_app (bytes := 72) st 4 0 rfl rfl rfl rfl rfl rfl Tryd.underlying23 Tryd.info42 rfl rfl rfl rfl rfl (by simp) rfl rfl (by unfold maxLen; omega) (by omega) ?_)
      intro oaQ capQ w st; dsimp only [setNth] at st
      refine vc_y rfl rfl ((by exact y_faz (k := 2) rfl Tryd.underlying25 rfl rfl Tryd.sizeOf23 rfl)) ?_
      refine vc_e (e_st st 6 rfl rfl rfl rfl Tryd.sizeOf23 rfl rfl (by first | (right; assumption) | (left; simp)) ?_)
      intro w st; dsimp only [setNth, wr] at st
      refine vc_end ?_
      refine vq_block ?_
      refine vq_then ?_
      refine vc_keep [(2, _), (3, _), (14, _), (15, _), (16, _)] ⟨rfl, rfl, rfl, rfl, rfl, trivial⟩ ?_
      refine vc_region ?_
      obtain ⟨h3, hN3⟩ := st.ownNw (i := 2) rfl
      have d34 := st.ne (i := 2) (j := 1) (by decide) rfl rfl
      simp only [Res.at?, obk_own] at d34
      have dS3 := st.ne (i := 5) (j := 2) (by decide) rfl rfl
      simp only [Res.at?, obk_own] at dS3
      have dS4 := st.ne (i := 5) (j := 1) (by decide) rfl rfl
      have hNq := hN3.app hN4 d34
      have hne : ∀ b ∈ S, b ∉ obk s3o ++ S4 := fun b hb hb' => (List.mem_append.1 hb').elim (dS3 b hb) (dS4 b hb)
      have h0 := (st.res (i := 5) rfl).1
      have h4 := (st.res (i := 1) rfl).1
      have h5 : ThSs 63 70 67 w (p.threads.take (j + 1)) (xs ++ thL t s3o s4o s3c s4c) (S ++ (obk s3o ++ S4)) := by rw [take_snoc htj]; exact ThSs.snoc h0 ⟨s3o, s3c, s4o, s4c, obk s3o, S4, rfl, ⟨h3, rfl⟩, h4, rfl⟩
      have stN := (((st.pick [5, 2, 1, 4, 6, 7, 8, 9] rfl (by decide)).joinN 3 (q := .tree (S ++ (obk s3o ++ S4)) fun w => ThSs 63 70 67 w (p.threads.take (j + 1)) (xs ++ thL t s3o s4o s3c s4c) (S ++ (obk s3o ++ S4))) (fun k hk => by
        simp only [Res.at?, List.mem_append] at hk
        rcases hk with h | h | h
        · exact ⟨_, .head _, h⟩
        · exact ⟨_, .tail _ (.head _), by simpa [Res.at?, obk_own] using h⟩
        · exact ⟨_, .tail _ (.tail _ (.head _)), h⟩) (holds_of h5 h5.lt (fun a b h hk => h.kept hk)))).pick [1, 0, 2, 3, 4, 5] rfl (by decide)
      refine vc_y rfl rfl (y_add rfl rfl (by omega : _ = ((j + 1 : Nat) : Int)) (by omega) (by omega)) ?_
      refine vc_y rfl rfl (y_mv rfl) ?_
      refine vc_end ?_
      refine vq_again (j + 1, oaQ, capQ, xs ++ thL t s3o s4o s3c s4c, S ++ (obk s3o ++ S4))  ⟨rfl, rfl, rfl, rfl, rfl, trivial⟩ stN ?_ ?_
      · exact ⟨by dsimp only; omega, hSS.app hNq hne⟩
      · dsimp only; omega
    · intro hc17
      try simp only [dn] at hc17
      obtain rfl : j = p.threads.length := by omega
      rw [List.take_length] at st
      refine vc_exit ?_
      refine vq_then_exit ?_
      refine vq_then_exit ?_
      refine vq_block_exit ?_
      refine vq_then ?_
      refine vc_keep [(2, _), (3, _)] ⟨rfl, rfl, trivial⟩ ?_
      refine vc_seq ?_
      refine vc_region ?_
      refine vc_y rfl rfl ((by exact y_lda (vs := [_, _, _]) st 2 rfl Tryd.isAgg25 Tryd.sizeOf25 rfl rfl)) ?_
      refine vc_e (e_sts (vs := [_, _, _]) st 5 rfl rfl rfl rfl rfl Tryd.sizeOf25 rfl rfl (by first | (right; assumption) | (left; simp)) ?_)
      intro w st; dsimp only [setNth, wr] at st
      refine vc_end ?_
      refine vq_then ?_
      refine vc_keep [(2, _)] ⟨rfl, trivial⟩ ?_
      refine vc_ret ?_
      refine vq_ret1 st (.inl rfl) Tryd.results65 (by exact .cell 5 rfl rfl Tryd.isAgg25 Tryd.sizeOf25) ?_
      refine ⟨_, rfl, ?_⟩
      obtain ⟨h1, h2⟩ := st.ownNw (i := 0) rfl
      have h3 := (st.res (i := 1) rfl).1
      obtain ⟨h4, hN1⟩ := st.ownNw (i := 3) rfl
      obtain ⟨h5, hN2⟩ := st.ownNw (i := 4) rfl
      have e0 := st.ne (i := 0) (j := 1) (by decide) rfl rfl
      have e1 := st.ne (i := 3) (j := 4) (by decide) rfl rfl
      have e2 := st.ne (i := 3) (j := 0) (by decide) rfl rfl
      have e3 := st.ne (i := 3) (j := 1) (by decide) rfl rfl
      have e4 := st.ne (i := 4) (j := 0) (by decide) rfl rfl
      have e5 := st.ne (i := 4) (j := 1) (by decide) rfl rfl
      simp only [Res.at?, obk_own] at e0 e1 e2 e3 e4 e5
      exact ⟨_, obk s1o ++ (obk s2o ++ (obk oj ++ S)), rfl, ⟨s1o, s1c, s2o, s2c, oj, cj, obk s1o, obk s2o, obk oj ++ S, rfl, ⟨h4, rfl⟩, ⟨h5, rfl⟩, ⟨xs, S, h1, rfl, h3⟩, rfl⟩,
        hN1.app (hN2.app (h2.app hSS e0) (fun b hb hb' => (List.mem_append.1 hb').elim (e4 b hb) (e5 b hb))) (fun b hb hb' => (List.mem_append.1 hb').elim (e1 b hb) fun h => (List.mem_append.1 h).elim (e2 b hb) (e3 b hb)), st.chg⟩

end
end Go.Proofs.YtnmhlpnapgojjaaDoor

