/- A part of the proof: contracts of functions and plain laws; each theorem says its own conditions. -/
import Derived.Recover
import Derived.Test.YtnmhlpnapgojjaaGreatDoorPrettyOwnK1
import Derived.Test.YtnmhlpnapgojjaaGreatDoorPrettyOwnK12
import Derived.Test.YtnmhlpnapgojjaaGreatDoorPrettyOwnK3
import Derived.Test.YtnmhlpnapgojjaaGreatDoorPrettyOwnK5
import Derived.Test.YtnmhlpnapgojjaaGreatDoorPrettyOwnK2
import Derived.Test.YtnmhlpnapgojjaaGreatDoorPrettyOwnK11
import Derived.Test.YtnmhlpnapgojjaaGreatDoorPrettyOwnK6
set_option linter.unusedVariables false
set_option linter.unusedSimpArgs false
namespace Go.Proofs.YtnmhlpnapgojjaaGreatDoor
open Go.RowKit Sx LexS _root_.Go.Proofs.Tryz
def s1 (e : Env) (x : Sm) : Sm := x.setNm (e.g x.nm)
def s2 (e : Env) (x : Sm) : Sm := (s1 e x).setOther (e.g x.other)
def s3 (e : Env) (x : Sm) : Sm := (s2 e x).setAt (e.h x.a)
def s4 (e : Env) (x : Sm) : Sm := (s3 e x).setE (trEs e.g e.h x.e)
def s5 (e : Env) (x : Sm) : Sm := (s4 e x).setBody (trSs e.g e.h x.body)
theorem s3_e (e : Env) (x : Sm) : (s3 e x).e = x.e := by cases x; rfl
theorem s4_body (e : Env) (x : Sm) : (s4 e x).body = x.body := by cases x; rfl
theorem s5_els (e : Env) (x : Sm) : (s5 e x).els = x.els := by cases x; rfl
theorem s5_end (e : Env) (x : Sm) : (s5 e x).setEls (trSs e.g e.h x.els) = trS e.g e.h x := by cases x; rfl

set_option maxHeartbeats 4000000 in
theorem sl_any (e : Env) (ok : e.Ok) : ∀ (n : Nat) (es : List Sm), szo es = n → OkSs es → ∀ (oa : Option Addr) (cap : Nat) (S : List Nat) (w : World), SmRQ w oa cap es S → S.Nodup → e.in4 w → (∀ b ∈ e.E, b < w.heap.size) → (∀ b ∈ S, b ∉ e.E) →
    Ret Tryz.prog 120 ([] ++ [.slice oa es.length cap] ++ [e.pn, e.pa, e.pe, e.ps]) w fun v w' => v = .tuple #[] ∧ SmRQ w' oa cap (trSs e.g e.h es) S ∧ Chg S w w' := by
 intro n
 refine Nat.strongRecOn n fun n ih => ?_
 intro es hn hok oa cap S w hQ hSN hE hEl hd
 subst hn
 have hn := hok.1
 refine ret_of [_, _, _, _, _] func120 rfl ntmps120 rfl ?_
 have st := St.init w S
 clear st
 obtain ⟨w0, rfl⟩ : ∃ w0, w0 = w := ⟨_, rfl⟩
 have st := St.two (w := w0) (φ := fun w => SmRQ w oa cap es S) (ψ := e.in4) hQ hE hQ.lt hEl loc_sm (loc_of fun a b h hk => Env.in4.kept ok h hk) hd
 have hSM : ∀ k ∈ S, k ∈ S ∨ w0.heap.size ≤ k := fun k hk => .inl hk
 refine vc_seq (vc_region ?_)
 refine ym ?_
 refine vy (y_lensl rfl underlying65) ?_
 refine ym ?_
 refine vc_end (vq_then (vk7 0 1 2 3 4 9 10 (vc_block ?_)))
 refine vc_loop (w0 := w0) (M := S) (fun (j : Nat) => [(0, .slice oa es.length cap), (1, e.pn), (2, e.pa), (3, e.pe), (4, e.ps), (9, .int .i64 (es.length : Int)), (10, .int .i64 (j : Int))]) (fun j => [.tree S (fun w => SmRQ w oa cap (mixL (trS e.g e.h) es j) S), .tree e.E e.in4]) (fun j _ => j ≤ es.length) (fun j => es.length - j) 0 ⟨rfl, rfl, rfl, rfl, rfl, rfl, rfl, trivial⟩ (by simpa only [mixL_zero] using st) (by omega) ?_
 clear st
 rintro j w hj st
 refine vc_seq (vc_region ?_)
 refine vy (y_lss rfl rfl) ?_
 refine vc_end (vq_then (vk8 0 1 2 3 4 9 10 11 (vc_seq ?_)))
 refine vc_ifs rfl ?_ ?_
 ·intro hc11
  try simp only [dn] at hc11
  obtain ⟨x, hx⟩ : ∃ x, es[j]? = some x := ⟨_, List.getElem?_eq_getElem (by omega)⟩
  have hkx := hok.2 j x hx
  have hz := mem_size hx
  have hzB : szo x.body < szo es := by have : szo x.body < szo x := by cases x; exact sm_size.1
                                       omega
  have hzL : szo x.els < szo es := by have : szo x.els < szo x := by cases x; exact sm_size.2
                                      omega
  have hm0 := mixL_get (f := trS e.g e.h) hx
  have hm1 : ((mixL (trS e.g e.h) es j).set j (s1 e x))[j]? = some (s1 e x) := set_get hm0
  have hm2 : ((mixL (trS e.g e.h) es j).set j (s2 e x))[j]? = some (s2 e x) := set_get hm0
  have hm3 : ((mixL (trS e.g e.h) es j).set j (s3 e x))[j]? = some (s3 e x) := set_get hm0
  have hm4 : ((mixL (trS e.g e.h) es j).set j (s4 e x))[j]? = some (s4 e x) := set_get hm0
  have hm5 : ((mixL (trS e.g e.h) es j).set j (s5 e x))[j]? = some (s5 e x) := set_get hm0
  have h12 : ((mixL (trS e.g e.h) es j).set j (s1 e x)).set j ((s1 e x).setOther (e.g x.other)) = ((mixL (trS e.g e.h) es j).set j (s2 e x)) := List.set_set ..
  have h23 : ((mixL (trS e.g e.h) es j).set j (s2 e x)).set j ((s2 e x).setAt (e.h x.a)) = ((mixL (trS e.g e.h) es j).set j (s3 e x)) := List.set_set ..
  have h34 : ((mixL (trS e.g e.h) es j).set j (s3 e x)).set j ((s3 e x).setE (trEs e.g e.h x.e)) = ((mixL (trS e.g e.h) es j).set j (s4 e x)) := List.set_set ..
  have h45 : ((mixL (trS e.g e.h) es j).set j (s4 e x)).set j ((s4 e x).setBody (trSs e.g e.h x.body)) = ((mixL (trS e.g e.h) es j).set j (s5 e x)) := List.set_set ..
  have h56 : ((mixL (trS e.g e.h) es j).set j (s5 e x)).set j ((s5 e x).setEls (trSs e.g e.h x.els)) = mixL (trS e.g e.h) es (j + 1) := by rw [List.set_set, s5_end]; exact mixL_step hx
  have stK := st
  obtain ⟨b, _, _, _, _, _, _, _, _, _, rfl, -⟩ := smR_focus (st.res (i := 0) rfl).1 hSN hm0
  have st := stK
  clear stK
  have hcell0 : ∀ w, SmRQ w (some ⟨b, 0, none⟩) cap (mixL (trS e.g e.h) es j) S → w.cell? ⟨b, j * 7 + 1, none⟩ = some (str x.nm) ∧ w.cell? ⟨b, j * 7 + 2, none⟩ = some (str x.other) ∧ w.cell? ⟨b, j * 7 + 6, none⟩ = some (.int .i64 x.a) := fun w h => by
   obtain ⟨b', _, _, _, _, _, _, _, _, _, hb', -, hc, -⟩ := smR_focus h hSN hm0
   simp only [Option.some.injEq, Addr.mk.injEq, and_true] at hb'
   subst hb'
   exact ⟨hc 1 _ rfl, hc 2 _ rfl, hc 6 _ rfl⟩
  refine vc_code_skip (vq_then (vk7 0 1 2 3 4 9 10 (vc_seq (vc_block (vc_seq (vc_region ?_))))))
  refine ym ?_
  refine ya ?_
  refine vc_end (vq_then (vk8 0 1 2 3 4 6 9 10 (vc_seq (vc_region ?_))))
  iterate 2 refine ym ?_
  refine vy (y_ia0 (k := j) rfl rfl underlying65 sizeOf67 rfl (by omega)) ?_
  refine ya ?_
  refine vc_end (vq_then (vk8 0 1 2 3 4 7 9 10 (vc_seq ?_)))
  refine vk_draw Tryz.mixed [(0, true), (1, true), (2, true), (4, true), (5, true), (6, true), (10, true), (11, true), (12, true), (16, true), (17, true), (18, true), (3, true), (7, true), (9, true), (13, true), (15, true), (19, true), (8, false), (14, false), (20, false), (21, true), (22, true), (23, false), (24, true), (25, true), (26, false), (27, true), (28, true), (29, false)] 23 (fun w => St _ _ [.tree S (fun w => SmRQ w (some ⟨b, 0, none⟩) cap (mixL (trS e.g e.h) es j) S), .tree e.E e.in4] w) (by exact st) (by kernel_rfl) (by repeat (first | exact okQ_body | refine okQ_then ?_ | refine okQ_block ?_)) rfl (by kernel_rfl) rfl ?_
  intro w cd; replace st := st.call0 cd; clear cd
  have hS : St _ _ [.tree S (fun w => SmRQ w (some ⟨b, 0, none⟩) cap (mixL (trS e.g e.h) es j) S), .tree e.E e.in4] w := (by exact st)
  iterate 4 refine vk_takeU rfl rfl rfl rfl (fun _ => hS) (fun w => y_mv rfl) ?_
  refine vk_takeU rfl rfl rfl rfl (fun _ => hS) (fun w => y_nck rfl) ?_
  refine vk_takeU rfl rfl rfl rfl (fun _ => hS) (fun w => (by exact y_fa (k := 1) rfl underlying67 rfl rfl sizeOf9 rfl)) ?_
  refine vk_takeU rfl rfl rfl rfl (fun _ => hS) (fun w => y_mv rfl) ?_
  refine vk_takeU rfl rfl rfl rfl (fun _ => hS) (fun w => y_nck rfl) ?_
  refine vk_takeU rfl rfl rfl rfl (fun _ => hS) (fun w => (by exact y_fa (k := 2) rfl underlying67 rfl rfl sizeOf9 rfl)) ?_
  refine vk_takeU rfl rfl rfl rfl (fun _ => hS) (fun w => y_mv rfl) ?_
  refine vk_takeU rfl rfl rfl rfl (fun _ => hS) (fun w => y_nck rfl) ?_
  refine vk_takeU rfl rfl rfl rfl (fun _ => hS) (fun w => (by exact y_fa (k := 6) rfl underlying67 rfl rfl sizeOf3 rfl)) ?_
  refine vk_take rfl rfl rfl rfl hS (fun w st => y_ldc rfl isAgg95 (cell_nth (st.res (i := 1) rfl).1.1.1.1 rfl)) ?_
  refine vk_take rfl rfl rfl rfl hS (fun w st => y_ldc rfl isAgg9 (hcell0 _ (st.res (i := 0) rfl).1).1) ?_
  refine vk_take rfl rfl rfl rfl hS (fun w st => y_ldc rfl isAgg95 (cell_nth (st.res (i := 1) rfl).1.1.1.1 rfl)) ?_
  refine vk_take rfl rfl rfl rfl hS (fun w st => y_ldc rfl isAgg9 (hcell0 _ (st.res (i := 0) rfl).1).2.1) ?_
  refine vk_take rfl rfl rfl rfl hS (fun w st => y_ldc rfl isAgg97 (cell_nth (st.res (i := 1) rfl).1.1.1.2.1 rfl)) ?_
  refine vk_take rfl rfl rfl rfl hS (fun w st => y_ldc rfl isAgg3 (hcell0 _ (st.res (i := 0) rfl).1).2.2) ?_
  refine vk_do rfl rfl (e_callv [_] rfl rfl rfl ok.calln rfl (ok.nm x.nm _ (st.res (i := 1) rfl).1.1.1.2.2) ?_)
  rintro _ _ ⟨rfl, rfl⟩
  refine vk_next (by exact st) ?_; intro hS
  refine vk_do rfl rfl (e_callv [_] rfl rfl rfl ok.calln rfl (ok.nm x.other _ (st.res (i := 1) rfl).1.1.1.2.2) ?_)
  rintro _ _ ⟨rfl, rfl⟩
  refine vk_next (by exact st) ?_; intro hS
  refine vk_do rfl rfl (e_callv [_] rfl rfl rfl ok.calla rfl (ok.at_ x.a _ (st.res (i := 1) rfl).1.1.1.2.2) ?_)
  rintro _ _ ⟨rfl, rfl⟩
  refine vk_next (by exact st) ?_; intro hS
  refine vk_takeU rfl rfl rfl rfl (fun _ => hS) (fun w => y_nck rfl) ?_
  refine vk_takeU rfl rfl rfl rfl (fun _ => hS) (fun w => (by exact y_fa (k := 1) rfl underlying67 rfl rfl sizeOf9 rfl)) ?_
  obtain ⟨b1, oe1, ce1, ob1, cb1, ol1, cl1, Se1, Sb1, Sl1, hb1, r1, k1, qe1, qb1, ql1, ne1, nb1, nl1, ue1, ub1, ul1, z1, z2, z3, pe1, pb1, pl1⟩ := smR_focus (st.res (i := 0) rfl).1 hSN hm0
  simp only [Option.some.injEq, Addr.mk.injEq, and_true] at hb1
  subst hb1
  refine vk_do rfl rfl (e_stT st 0 (ψ := fun w => SmRQ w (some ⟨b, 0, none⟩) cap ((mixL (trS e.g e.h) es j).set j (s1 e x)) S) rfl rfl rfl rfl sizeOf9 rfl r1.mem (hSM _ r1.mem) ⟨_, k1 1 _ rfl⟩ (r1.fz _) (z1 _) loc_sm ?_)
  intro w st; dsimp only [setNth] at st
  refine vk_late ?_
  refine vk_takeU rfl rfl rfl rfl (fun h => by cases h) (fun w => y_nck rfl) ?_
  refine vk_takeU rfl rfl rfl rfl (fun h => by cases h) (fun w => (by exact y_fa (k := 2) rfl underlying67 rfl rfl sizeOf9 rfl)) ?_
  clear z1 z2 z3
  obtain ⟨b2, oe2, ce2, ob2, cb2, ol2, cl2, Se2, Sb2, Sl2, hb2, r2, k2, qe2, qb2, ql2, ne2, nb2, nl2, ue2, ub2, ul2, z1, z2, z3, pe2, pb2, pl2⟩ := smR_focus (st.res (i := 0) rfl).1 hSN hm1
  simp only [Option.some.injEq, Addr.mk.injEq, and_true] at hb2
  subst hb2
  refine vk_do rfl rfl (e_stT st 0 (ψ := fun w => SmRQ w (some ⟨b, 0, none⟩) cap ((mixL (trS e.g e.h) es j).set j (s2 e x)) S) rfl rfl rfl rfl sizeOf9 rfl r2.mem (hSM _ r2.mem) ⟨_, k2 2 _ rfl⟩ (r2.fz _) (h12 ▸ z2 _) loc_sm ?_)
  intro w st; dsimp only [setNth] at st
  refine vk_late ?_
  refine vk_takeU rfl rfl rfl rfl (fun h => by cases h) (fun w => y_nck rfl) ?_
  refine vk_takeU rfl rfl rfl rfl (fun h => by cases h) (fun w => (by exact y_fa (k := 6) rfl underlying67 rfl rfl sizeOf3 rfl)) ?_
  clear z1 z2 z3
  obtain ⟨b3, oe3, ce3, ob3, cb3, ol3, cl3, Se3, Sb3, Sl3, hb3, r3, k3, qe3, qb3, ql3, ne3, nb3, nl3, ue3, ub3, ul3, z1, z2, z3, pe3, pb3, pl3⟩ := smR_focus (st.res (i := 0) rfl).1 hSN hm2
  simp only [Option.some.injEq, Addr.mk.injEq, and_true] at hb3
  subst hb3
  refine vk_do rfl rfl (e_stT st 0 (ψ := fun w => SmRQ w (some ⟨b, 0, none⟩) cap ((mixL (trS e.g e.h) es j).set j (s3 e x)) S) rfl rfl rfl rfl sizeOf3 rfl r3.mem (hSM _ r3.mem) ⟨_, k3 6 _ rfl⟩ (r3.fz _) (h23 ▸ z3 _) loc_sm ?_)
  intro w st; dsimp only [setNth] at st
  refine vk_late ?_
  refine vk_end ?_
  refine vq_then (vk8 0 1 2 3 4 7 9 10 (vc_seq ?_))
  refine vk_draw Tryz.mixed [(1, true), (2, true), (3, true), (0, true), (4, false), (5, false)] 5 (fun w => St _ _ [.tree S (fun w => SmRQ w (some ⟨b, 0, none⟩) cap ((mixL (trS e.g e.h) es j).set j (s3 e x)) S), .tree e.E e.in4] w) (by exact st) (by kernel_rfl) (by repeat (first | exact okQ_body | refine okQ_then ?_ | refine okQ_block ?_)) rfl (by kernel_rfl) rfl ?_
  intro w cd; replace st := st.call0 cd; clear cd
  have hS : St _ _ [.tree S (fun w => SmRQ w (some ⟨b, 0, none⟩) cap ((mixL (trS e.g e.h) es j).set j (s3 e x)) S), .tree e.E e.in4] w := (by exact st)
  refine vk_takeU rfl rfl rfl rfl (fun _ => hS) (fun w => y_mv rfl) ?_
  refine vk_takeU rfl rfl rfl rfl (fun _ => hS) (fun w => y_nck rfl) ?_
  refine vk_takeU rfl rfl rfl rfl (fun _ => hS) (fun w => (by exact y_fa (k := 3) rfl underlying67 rfl rfl sizeOf40 rfl)) ?_
  refine vk_take rfl rfl rfl rfl hS (fun w st => y_ldc rfl isAgg102 (cell_nth (st.res (i := 1) rfl).1.1.2 rfl)) ?_
  obtain ⟨b4, oe4, ce4, ob4, cb4, ol4, cl4, Se4, Sb4, Sl4, hb4, r4, k4, qe4, qb4, ql4, ne4, nb4, nl4, ue4, ub4, ul4, z1, z2, z3, pe4, pb4, pl4⟩ := smR_focus (st.res (i := 0) rfl).1 hSN hm3
  simp only [Option.some.injEq, Addr.mk.injEq, and_true] at hb4
  subst hb4
  rw [s3_e] at qe4
  refine vk_do rfl rfl (e_run rfl rfl ((by exact y_ldc rfl isAgg40 (k4 3 (.slice oe4 x.e.length ce4) (by rw [s3_e]; rfl)))) ?_)
  refine vk_next (by exact st) ?_; intro hS
  refine vk_do rfl rfl (e_callv [_] rfl rfl rfl call119 rfl (el_any e ok _ x.e rfl hkx.e oe4 ce4 Se4 _ qe4 ne4 (st.res (i := 1) rfl).1.1 (st.res (i := 1) rfl).2.1 (fun k hk => hd k (ue4 k hk))) ?_)
  rintro _ w ⟨rfl, hq, hc⟩
  replace st := st.within (ψ := fun w => SmRQ w (some ⟨b, 0, none⟩) cap ((mixL (trS e.g e.h) es j).set j (s4 e x)) S) hc ue4 hSM (h34 ▸ pe4 w (trEs e.g e.h x.e) (by rw [trEs_len, s3_e]) hq hc) loc_sm
  refine vk_late ?_
  refine vk_end ?_
  refine vq_then (vk8 0 1 2 3 4 7 9 10 (vc_seq ?_))
  refine vk_draw Tryz.mixed [(1, true), (2, true), (3, true), (0, true), (4, false), (5, false)] 5 (fun w => St _ _ [.tree S (fun w => SmRQ w (some ⟨b, 0, none⟩) cap ((mixL (trS e.g e.h) es j).set j (s4 e x)) S), .tree e.E e.in4] w) (by exact st) (by kernel_rfl) (by repeat (first | exact okQ_body | refine okQ_then ?_ | refine okQ_block ?_)) rfl (by kernel_rfl) rfl ?_
  intro w cd; replace st := st.call0 cd; clear cd
  have hS : St _ _ [.tree S (fun w => SmRQ w (some ⟨b, 0, none⟩) cap ((mixL (trS e.g e.h) es j).set j (s4 e x)) S), .tree e.E e.in4] w := (by exact st)
  refine vk_takeU rfl rfl rfl rfl (fun _ => hS) (fun w => y_mv rfl) ?_
  refine vk_takeU rfl rfl rfl rfl (fun _ => hS) (fun w => y_nck rfl) ?_
  refine vk_takeU rfl rfl rfl rfl (fun _ => hS) (fun w => (by exact y_fa (k := 4) rfl underlying67 rfl rfl sizeOf65 rfl)) ?_
  refine vk_take rfl rfl rfl rfl hS (fun w st => y_ldc rfl isAgg103 (cell_nth (st.res (i := 1) rfl).1.2 rfl)) ?_
  obtain ⟨b5, oe5, ce5, ob5, cb5, ol5, cl5, Se5, Sb5, Sl5, hb5, r5, k5, qe5, qb5, ql5, ne5, nb5, nl5, ue5, ub5, ul5, z1, z2, z3, pe5, pb5, pl5⟩ := smR_focus (st.res (i := 0) rfl).1 hSN hm4
  simp only [Option.some.injEq, Addr.mk.injEq, and_true] at hb5
  subst hb5
  rw [s4_body] at qb5
  refine vk_do rfl rfl (e_run rfl rfl ((by exact y_ldc rfl isAgg65 (k5 4 (.slice ob5 x.body.length cb5) (by rw [s4_body]; rfl)))) ?_)
  refine vk_next (by exact st) ?_; intro hS
  refine vk_do rfl rfl (e_callv [_] rfl rfl rfl call120 rfl (ih _ hzB x.body rfl hkx.body ob5 cb5 Sb5 _ qb5 nb5 (st.res (i := 1) rfl).1 (st.res (i := 1) rfl).2.1 (fun k hk => hd k (ub5 k hk))) ?_)
  rintro _ w ⟨rfl, hq, hc⟩
  replace st := st.within (ψ := fun w => SmRQ w (some ⟨b, 0, none⟩) cap ((mixL (trS e.g e.h) es j).set j (s5 e x)) S) hc ub5 hSM (h45 ▸ pb5 w (trSs e.g e.h x.body) (by rw [trSs_len, s4_body]) hq hc) loc_sm
  refine vk_late ?_
  refine vk_end ?_
  refine vq_then (vk8 0 1 2 3 4 7 9 10 ?_)
  refine vk_draw Tryz.mixed [(1, true), (2, true), (3, true), (0, true), (4, false), (5, false)] 5 (fun w => St _ _ [.tree S (fun w => SmRQ w (some ⟨b, 0, none⟩) cap ((mixL (trS e.g e.h) es j).set j (s5 e x)) S), .tree e.E e.in4] w) (by exact st) (by kernel_rfl) (by repeat (first | exact okQ_body | refine okQ_then ?_ | refine okQ_block ?_)) rfl (by kernel_rfl) rfl ?_
  intro w cd; replace st := st.call0 cd; clear cd
  have hS : St _ _ [.tree S (fun w => SmRQ w (some ⟨b, 0, none⟩) cap ((mixL (trS e.g e.h) es j).set j (s5 e x)) S), .tree e.E e.in4] w := (by exact st)
  refine vk_takeU rfl rfl rfl rfl (fun _ => hS) (fun w => y_mv rfl) ?_
  refine vk_takeU rfl rfl rfl rfl (fun _ => hS) (fun w => y_nck rfl) ?_
  refine vk_takeU rfl rfl rfl rfl (fun _ => hS) (fun w => (by exact y_fa (k := 5) rfl underlying67 rfl rfl sizeOf65 rfl)) ?_
  refine vk_take rfl rfl rfl rfl hS (fun w st => y_ldc rfl isAgg103 (cell_nth (st.res (i := 1) rfl).1.2 rfl)) ?_
  obtain ⟨b6, oe6, ce6, ob6, cb6, ol6, cl6, Se6, Sb6, Sl6, hb6, r6, k6, qe6, qb6, ql6, ne6, nb6, nl6, ue6, ub6, ul6, z1, z2, z3, pe6, pb6, pl6⟩ := smR_focus (st.res (i := 0) rfl).1 hSN hm5
  simp only [Option.some.injEq, Addr.mk.injEq, and_true] at hb6
  subst hb6
  rw [s5_els] at ql6
  refine vk_do rfl rfl (e_run rfl rfl ((by exact y_ldc rfl isAgg65 (k6 5 (.slice ol6 x.els.length cl6) (by rw [s5_els]; rfl)))) ?_)
  refine vk_next (by exact st) ?_; intro hS
  refine vk_do rfl rfl (e_callv [_] rfl rfl rfl call120 rfl (ih _ hzL x.els rfl hkx.els ol6 cl6 Sl6 _ ql6 nl6 (st.res (i := 1) rfl).1 (st.res (i := 1) rfl).2.1 (fun k hk => hd k (ul6 k hk))) ?_)
  rintro _ w ⟨rfl, hq, hc⟩
  replace st := st.within (ψ := fun w => SmRQ w (some ⟨b, 0, none⟩) cap (mixL (trS e.g e.h) es (j + 1)) S) hc ul6 hSM (h56 ▸ pl6 w (trSs e.g e.h x.els) (by rw [trSs_len, s5_els]) hq hc) loc_sm
  refine vk_late ?_
  refine vk_end ?_
  refine vq_block (vq_then (vk7 0 1 2 3 4 9 10 (vc_region ?_)))
  refine vy (y_add rfl rfl (by omega : _ = ((j + 1 : Nat) : Int)) (by omega) (by omega)) ?_
  refine ym ?_
  refine vc_end ?_
  refine vq_again (j + 1)  ⟨rfl, rfl, rfl, rfl, rfl, rfl, rfl, trivial⟩ st ?_ ?_
  ·omega
  ·omega
 ·intro hc11
  try simp only [dn] at hc11
  refine vc_exit (vq_then_exit (vq_then_exit (vq_block_exit ?_)))
  refine vq_ret0 (.inr rfl) results120 ?_
  refine ⟨_, rfl, ?_⟩
  obtain rfl : j = es.length := by omega
  rw [mixL_all, ← trSs_map] at st
  exact ⟨rfl, (st.res (i := 0) rfl).1, st.chg⟩

end Go.Proofs.YtnmhlpnapgojjaaGreatDoor


namespace Go.Proofs.YtnmhlpnapgojjaaGreatDoor
open Go.RowKit Sx LexS _root_.Go.Proofs.Tryz
section
variable {n0 : Nat}

set_option maxHeartbeats 2000000 in
theorem pcopyP_any (p : Pg) (hok : OkP p) (os ol ot : Option Addr) (cs cl ct : Nat) (w : World) (hSh : DcRow w (· < n0) os p.shared) (hL : DcRow w (· < n0) ol p.locks) (hT : ThRow w (· < n0) ot p.threads) (hn0 : n0 ≤ w.heap.size) :
    Ret Tryz.prog 117 [.agg (pgL p os ol ot cs cl ct).toArray] w fun v w' => ∃ l S, v = .agg l.toArray ∧ PgQ w' p l S ∧ Nw w.heap.size S ∧ Chg [] w w' := by
  refine ret_of [_] func117 rfl ntmps117 rfl ?_
  have st := St.init w []
  obtain ⟨w0, rfl⟩ : ∃ w0, w0 = w := ⟨_, rfl⟩
  have hn1 := hok.1.1
  have hn2 := hok.2.1.1
  have hn3 := hok.2.2.1
  refine vc_seq (vc_region ?_)
  refine vc_e (e_bx (l := [_, _, _]) st rfl rfl rfl rfl ?_)
  intro b1 w hb1 st
  refine vc_e (e_al (l := [_, _, _]) st rfl rfl zeroValue26 rfl ?_)
  intro b2 w hb2 st
  refine vc_end (vq_then (vk2 1 2 ?_))
  refine vc_cut (w0 := w0) (M := []) (fun (z : Option Addr × Nat × Option Addr × Nat × Nat) => [(1, .pointer (some ⟨b1, 0, none⟩)), (2, .pointer (some ⟨b2, 0, none⟩)), (3, .pointer (some ⟨z.2.2.2.2, 0, none⟩))]) (fun z => [.blk z.2.2.2.2 (.cells [.slice z.1 p.shared.length z.2.1, .slice z.2.2.1 p.locks.length z.2.2.2.1, .slice none 0 0].toArray 26 (0, 0)), .own (.slice z.1 p.shared.length z.2.1) 63 3 p.shared.length (p.shared.flatMap dcL), .own (.slice z.2.2.1 p.locks.length z.2.2.2.1) 63 3 p.locks.length (p.locks.flatMap dcL), .blk b2 (.cells [.slice none 0 0, .slice none 0 0, .slice none 0 0].toArray 26 (0, 0)), .blk b1 (.cells (pgL p os ol ot cs cl ct).toArray 26 (0, 0))]) (fun z _ => w0.heap.size ≤ z.2.2.2.2) ?_ ?_
  ·
    refine vd_draw Tryz.mixed (.take 0 (.take 1 (.take 3 (.take 4 (.two 2 7 (.two 5 7 (.take 6 (.one 7 (.one 8 .done))) (.one 5 (.take 6 (.one 8 .done)))) (.one 2 (.one 5 (.take 6 (.one 8 .done))))))))) (fun w => St _ _ [.blk b2 (.cells [.slice none 0 0, .slice none 0 0, .slice none 0 0].toArray 26 (0, 0)), .blk b1 (.cells (pgL p os ol ot cs cl ct).toArray 26 (0, 0))] w) (by exact st) (by kernel_rfl) (by repeat (first | exact okQ_body | refine okQ_then ?_ | refine okQ_block ?_)) rfl (by kernel_rfl) ?_
    intro w cd; replace st := st.call0 cd; clear cd
    have hS : St _ _ [.blk b2 (.cells [.slice none 0 0, .slice none 0 0, .slice none 0 0].toArray 26 (0, 0)), .blk b1 (.cells (pgL p os ol ot cs cl ct).toArray 26 (0, 0))] w := (by exact st)
    refine df0 hS underlying26 sizeOf23 ?_
    refine dld hS 1 isAgg23 ?_
    refine dfz hS 1 underlying26 sizeOf23 ?_
    refine dld hS 1 isAgg23 ?_
    refine vd_two rfl rfl ?_ ?_
    ·
      replace st := st.ownNil 63 3
      refine (e_appr (bytes := 32) (len' := p.shared.length) (ys := p.shared.flatMap dcL) st 0 rfl rfl rfl rfl rfl (DcRow.rd (S := (· < n0)) (RowC.kept hSh (Same.of_nil st.chg))) underlying23 Tryz.info63 rfl rfl rfl rfl rfl (dcs_len p.shared) (dcs_one p.shared) (by unfold maxLen; omega) (by omega) (by omega) (by simp) ?_)
      intro s1o s1c w st; dsimp only [setNth] at st
      refine vd_next st.dr ?_; intro hS
      refine vd_two rfl rfl ?_ ?_
      ·
        replace st := st.ownNil 63 3
        refine (e_appr (bytes := 32) (len' := p.locks.length) (ys := p.locks.flatMap dcL) st 0 rfl rfl rfl rfl rfl (DcRow.rd (S := (· < n0)) (RowC.kept hL (Same.of_nil st.chg))) underlying23 Tryz.info63 rfl rfl rfl rfl rfl (dcs_len p.locks) (dcs_one p.locks) (by unfold maxLen; omega) (by omega) (by omega) (by simp) ?_)
        intro s2o s2c w st; dsimp only [setNth] at st
        refine vd_next st.dr ?_; intro hS
        refine vd_take rfl rfl rfl hS (fun w st => y_bld (.agg #[_, _, _]) [(0, _), (1, _)] rfl (fun w => by simp [Instr.build, go_sem] <;> repeat' constructor)) ?_
        refine vd_do rfl (e_al (l := [_, _, _]) st rfl rfl zeroValue26 rfl ?_)
        intro b3 w hb3 st
        refine vd_next st.dr ?_; intro hS
        refine vd_do rfl (e_sts (vs := [_, _, _]) st 0 rfl rfl rfl rfl rfl sizeOf26 rfl rfl (by (right; assumption)) ?_)
        intro w st; dsimp only [setNth, wr] at st
        refine vd_next st.dr ?_; intro hS
        refine vd_end ?_
        refine vq_meet (s1o, s1c, s2o, s2c, b3) ⟨rfl, rfl, rfl, trivial⟩ (by exact st.pick [0, 2, 1, 3, 4] rfl (by decide)) ?_
        · assumption
      ·
        refine (e_al (l := [_, _, _]) st rfl rfl zeroValue26 rfl ?_)
        intro b3 w hb3 st
        refine vd_next st.dr ?_; intro hS
        replace st := st.ownNil 63 3
        replace st := st.ownNil 63 3
        refine vd_do rfl (e_appr (bytes := 32) (len' := p.locks.length) (ys := p.locks.flatMap dcL) st 0 rfl rfl rfl rfl rfl (DcRow.rd (S := (· < n0)) (RowC.kept hL (Same.of_nil st.chg))) underlying23 Tryz.info63 rfl rfl rfl rfl rfl (dcs_len p.locks) (dcs_one p.locks) (by unfold maxLen; omega) (by omega) (by omega) (by simp) ?_)
        intro s2o s2c w st; dsimp only [setNth] at st
        refine vd_next st.dr ?_; intro hS
        refine vd_take rfl rfl rfl hS (fun w st => y_bld (.agg #[_, _, _]) [(0, _), (1, _)] rfl (fun w => by simp [Instr.build, go_sem] <;> repeat' constructor)) ?_
        refine vd_do rfl (e_sts (vs := [_, _, _]) st 2 rfl rfl rfl rfl rfl sizeOf26 rfl rfl (by (right; assumption)) ?_)
        intro w st; dsimp only [setNth, wr] at st
        refine vd_next st.dr ?_; intro hS
        refine vd_end ?_
        refine vq_meet (s1o, s1c, s2o, s2c, b3) ⟨rfl, rfl, rfl, trivial⟩ (by exact st.pick [2, 3, 0, 4, 5] rfl (by decide)) ?_
        · assumption
    ·
      refine (e_al (l := [_, _, _]) st rfl rfl zeroValue26 rfl ?_)
      intro b3 w hb3 st
      refine vd_next st.dr ?_; intro hS
      replace st := st.ownNil 63 3
      replace st := st.ownNil 63 3
      refine vd_do rfl (e_appr (bytes := 32) (len' := p.shared.length) (ys := p.shared.flatMap dcL) st 0 rfl rfl rfl rfl rfl (DcRow.rd (S := (· < n0)) (RowC.kept hSh (Same.of_nil st.chg))) underlying23 Tryz.info63 rfl rfl rfl rfl rfl (dcs_len p.shared) (dcs_one p.shared) (by unfold maxLen; omega) (by omega) (by omega) (by simp) ?_)
      intro s1o s1c w st; dsimp only [setNth] at st
      refine vd_next st.dr ?_; intro hS
      replace st := st.ownNil 63 3
      replace st := st.ownNil 63 3
      refine vd_do rfl (e_appr (bytes := 32) (len' := p.locks.length) (ys := p.locks.flatMap dcL) st 0 rfl rfl rfl rfl rfl (DcRow.rd (S := (· < n0)) (RowC.kept hL (Same.of_nil st.chg))) underlying23 Tryz.info63 rfl rfl rfl rfl rfl (dcs_len p.locks) (dcs_one p.locks) (by unfold maxLen; omega) (by omega) (by omega) (by simp) ?_)
      intro s2o s2c w st; dsimp only [setNth] at st
      refine vd_next st.dr ?_; intro hS
      refine vd_take rfl rfl rfl hS (fun w st => y_bld (.agg #[_, _, _]) [(0, _), (1, _)] rfl (fun w => by simp [Instr.build, go_sem] <;> repeat' constructor)) ?_
      refine vd_do rfl (e_sts (vs := [_, _, _]) st 4 rfl rfl rfl rfl rfl sizeOf26 rfl rfl (by (right; assumption)) ?_)
      intro w st; dsimp only [setNth, wr] at st
      refine vd_next st.dr ?_; intro hS
      refine vd_end ?_
      refine vq_meet (s1o, s1c, s2o, s2c, b3) ⟨rfl, rfl, rfl, trivial⟩ (by exact st.pick [4, 2, 0, 5, 6] rfl (by decide)) ?_
      · assumption
  ·
    clear st
    rintro ⟨s1o, s1c, s2o, s2c, b3⟩ w hb3 st
    dsimp only at *
    refine vc_seq (vc_seq (vc_region ?_))
    replace st := St.pushR (r := .tree [] (fun w => ThSs 42 67 63 w [] [] [])) st (Chg.refl _ _) (holds_of (by simp [ThSs]) (by simp) (fun a b h hk => h.kept hk)) (by simp [Res.at?])
    replace st := st.ownNil 69 4
    refine yfz 2 underlying26 sizeOf24 ?_
    refine yl st 6 isAgg24 ?_
    refine vy (y_lensl rfl underlying24) ?_
    refine ym ?_
    refine vc_end (vq_then (vk5 2 3 14 15 16 (vc_block ?_)))
    refine vc_loop (w0 := w0) (M := []) (fun (y : Nat × Option Addr × Nat × List Value × List Nat) => [(2, .pointer (some ⟨b2, 0, none⟩)), (3, .pointer (some ⟨b3, 0, none⟩)), (14, .slice ot p.threads.length ct), (15, .int .i64 (p.threads.length : Int)), (16, .int .i64 (y.1 : Int))]) (fun y => [.own (.slice y.2.1 y.1 y.2.2.1) 69 4 y.1 y.2.2.2.1, .tree y.2.2.2.2 (fun w => ThSs 42 67 63 w (p.threads.take y.1) y.2.2.2.1 y.2.2.2.2), .blk b3 (.cells [.slice s1o p.shared.length s1c, .slice s2o p.locks.length s2c, .slice y.2.1 y.1 y.2.2.1].toArray 26 (0, 0)), .own (.slice s1o p.shared.length s1c) 63 3 p.shared.length (p.shared.flatMap dcL), .own (.slice s2o p.locks.length s2c) 63 3 p.locks.length (p.locks.flatMap dcL), .blk b2 (.cells [.slice none 0 0, .slice none 0 0, .slice none 0 0].toArray 26 (0, 0))]) (fun y _ => y.1 ≤ p.threads.length ∧ Nw w0.heap.size y.2.2.2.2) (fun y => p.threads.length - y.1) (0, none, 0, [], []) ⟨rfl, rfl, rfl, rfl, rfl, trivial⟩ (by simpa using st.pick [0, 1, 2, 3, 4, 5] rfl (by decide)) ⟨by simp, Nw.nil⟩ ?_
    clear st
    rintro ⟨j, oj, cj, xs, S⟩ w ⟨hj, hSS⟩ st
    dsimp only at *
    refine vc_seq (vc_region ?_)
    refine vy (y_lss rfl rfl) ?_
    refine vc_end (vq_then (vk6 2 3 14 15 16 17 (vc_seq ?_)))
    refine vc_ifs rfl ?_ ?_
    · intro hc17
      try simp only [dn] at hc17
      have stK := st
      obtain ⟨t, htj⟩ : ∃ t, p.threads[j]? = some t := ⟨_, List.getElem?_eq_getElem (by omega)⟩
      obtain ⟨gb, go, rfl, hgS, hgl, hg⟩ := ThRow.at hT (by omega)
      obtain ⟨tl, tb, cll, cbb, htl, htb, hc⟩ := hg j t htj
      have hkt := hok.2.2.2 j t htj
      have st := stK
      clear stK
      refine vc_code_skip (vq_then (vk5 2 3 14 15 16 (vc_seq (vc_block (vc_seq (vc_region ?_))))))
      refine vy (y_ia (k := j) rfl rfl underlying24 sizeOf69 rfl (by omega)) ?_
      refine vy (y_ldca (thL t tl tb cll cbb) rfl isAgg69 sizeOf69 rfl (fun i v hi => st.chg.cell (hc i v hi) (by simp))) ?_
      refine vc_e (e_al (l := [_, _, _, _]) st rfl rfl zeroValue69 rfl ?_)
      intro b5 w hb5 st
      refine vc_e (e_sts (vs := [_, _, _, _]) st 0 rfl rfl rfl rfl rfl sizeOf69 rfl rfl (by (right; assumption)) ?_)
      intro w st; dsimp only [setNth, wr] at st
      refine vc_end (vq_then (vk6 2 3 5 14 15 16 (vc_seq (vc_region ?_))))
      refine yfz 1 underlying69 sizeOf23 ?_
      refine yl st 0 isAgg23 ?_
      replace st := st.ownNil 63 3
      have hn5 := hkt.1.1
      refine vc_e (e_appr (bytes := 32) (len' := t.locals.length) (ys := t.locals.flatMap dcL) st 0 rfl rfl rfl rfl rfl (DcRow.rd (S := (· < n0)) (RowC.kept htl (Same.of_nil st.chg))) underlying23 Tryz.info63 rfl rfl rfl rfl rfl (dcs_len t.locals) (dcs_one t.locals) (by unfold maxLen; omega) (by omega) (by omega) (by simp) ?_)
      intro s3o s3c w st; dsimp only [setNth] at st
      refine yfz 1 underlying69 sizeOf23 ?_
      refine vc_e (e_st st 1 rfl rfl rfl rfl sizeOf23 rfl rfl (by (right; assumption)) ?_)
      intro w st; dsimp only [setNth, wr] at st
      refine vc_end (vq_then (vk6 2 3 5 14 15 16 (vc_seq (vc_region ?_))))
      refine yfz 2 underlying69 sizeOf65 ?_
      refine yl st 1 isAgg65 ?_
      refine vc_e (e_call [_] rfl rfl call158 rfl (pcopyS_any _ t.body rfl hkt.2.1 _ _ _ (htb.kept (Same.of_nil st.chg)) (Nat.le_trans hn0 st.chg.size)) ?_)
      rintro _ w ⟨s4o, s4c, S4, rfl, hQ, hN, cw⟩
      have hN4 := hN.le st.chg.size
      replace st := St.pushR (r := .tree S4 (fun w => SmRQ w s4o s4c t.body S4)) st cw (holds_of hQ hQ.lt (fun a b h hk => h.kept hk)) hN.2
      refine yfz 2 underlying69 sizeOf65 ?_
      refine vc_e (e_st st 2 rfl rfl rfl rfl sizeOf65 rfl rfl (by (right; assumption)) ?_)
      intro w st; dsimp only [setNth, wr] at st
      refine vc_end (vq_then (vk6 2 3 5 14 15 16 (vc_region ?_)))
      refine yfz 2 underlying26 sizeOf24 ?_
      refine yl st 5 isAgg24 ?_
      refine yla st 2 [_, _, _, _] isAgg69 sizeOf69 ?_
      refine vc_e (e_bs1 (l := [_, _, _, _]) st rfl rfl rfl rfl underlying24 sizeOf69 rfl rfl rfl zeroValue69 ?_)
      intro b31 w hb31 st
      refine vc_e (e_app (bytes := 72) st 4 0 rfl rfl rfl rfl rfl rfl underlying24 Tryz.info69 rfl rfl rfl rfl rfl (by simp) rfl rfl (by unfold maxLen; omega) (by omega) ?_)
      intro oaQ capQ w st; dsimp only [setNth] at st
      refine yfz 2 underlying26 sizeOf24 ?_
      refine vc_e (e_st st 6 rfl rfl rfl rfl sizeOf24 rfl rfl (by (right; assumption)) ?_)
      intro w st; dsimp only [setNth, wr] at st
      refine vc_end (vq_block (vq_then (vk5 2 3 14 15 16 (vc_region ?_))))
      obtain ⟨h3, hN3⟩ := st.ownNw (i := 2) rfl
      have d34 := st.ne (i := 2) (j := 1) (by decide) rfl rfl
      simp only [Res.at?, obk_own] at d34
      have dS3 := st.ne (i := 5) (j := 2) (by decide) rfl rfl
      simp only [Res.at?, obk_own] at dS3
      have dS4 := st.ne (i := 5) (j := 1) (by decide) rfl rfl
      have hNq := hN3.app hN4 d34
      have hne : ∀ b ∈ S, b ∉ obk s3o ++ S4 := fun b hb hb' => (List.mem_append.1 hb').elim (dS3 b hb) (dS4 b hb)
      have h0 := (st.res (i := 5) rfl).1
      have h4 := (st.res (i := 1) rfl).1
      have h5 : ThSs 42 67 63 w (p.threads.take (j + 1)) (xs ++ thL t s3o s4o s3c s4c) (S ++ (obk s3o ++ S4)) := by rw [take_snoc htj]; exact ThSs.snoc h0 ⟨s3o, s3c, s4o, s4c, obk s3o, S4, rfl, ⟨h3, rfl⟩, h4, rfl⟩
      have stN := (((st.pick [5, 2, 1, 4, 6, 7, 8, 9] rfl (by decide)).joinN 3 (q := .tree (S ++ (obk s3o ++ S4)) fun w => ThSs 42 67 63 w (p.threads.take (j + 1)) (xs ++ thL t s3o s4o s3c s4c) (S ++ (obk s3o ++ S4))) (fun k hk => by
        simp only [Res.at?, List.mem_append] at hk
        rcases hk with h | h | h
        · exact ⟨_, .head _, h⟩
        · exact ⟨_, .tail _ (.head _), by simpa [Res.at?, obk_own] using h⟩
        · exact ⟨_, .tail _ (.tail _ (.head _)), h⟩) (holds_of h5 h5.lt (fun a b h hk => h.kept hk)))).pick [1, 0, 2, 3, 4, 5] rfl (by decide)
      refine vy (y_add rfl rfl (by omega : _ = ((j + 1 : Nat) : Int)) (by omega) (by omega)) ?_
      refine ym ?_
      refine vc_end ?_
      refine vq_again (j + 1, oaQ, capQ, xs ++ thL t s3o s4o s3c s4c, S ++ (obk s3o ++ S4))  ⟨rfl, rfl, rfl, rfl, rfl, trivial⟩ stN ?_ ?_
      · exact ⟨by dsimp only; omega, hSS.app hNq hne⟩
      · dsimp only; omega
    · intro hc17
      try simp only [dn] at hc17
      obtain rfl : j = p.threads.length := by omega
      rw [List.take_length] at st
      refine vc_exit (vq_then_exit (vq_then_exit (vq_block_exit (vq_then (vk2 2 3 (vc_seq (vc_region ?_)))))))
      refine yla st 2 [_, _, _] isAgg26 sizeOf26 ?_
      refine vc_e (e_sts (vs := [_, _, _]) st 5 rfl rfl rfl rfl rfl sizeOf26 rfl rfl (by (right; assumption)) ?_)
      intro w st; dsimp only [setNth, wr] at st
      refine vc_end (vq_then (vk1 2 (vc_ret ?_)))
      refine vq_ret1 st (.inl rfl) results117 (by exact .cell 5 rfl rfl isAgg26 sizeOf26) ?_
      refine ⟨_, rfl, ?_⟩
      obtain ⟨h1, h2⟩ := st.ownNw (i := 0) rfl
      have h3 := (st.res (i := 1) rfl).1
      obtain ⟨h4, hN1⟩ := st.ownNw (i := 3) rfl
      obtain ⟨h5, hN2⟩ := st.ownNw (i := 4) rfl
      have e0 := st.ne (i := 0) (j := 1) (by decide) rfl rfl
      have e1 := st.ne (i := 3) (j := 4) (by decide) rfl rfl
      have e2 := st.ne (i := 3) (j := 0) (by decide) rfl rfl
      have e3 := st.ne (i := 3) (j := 1) (by decide) rfl rfl
      have e4 := st.ne (i := 4) (j := 0) (by decide) rfl rfl
      have e5 := st.ne (i := 4) (j := 1) (by decide) rfl rfl
      simp only [Res.at?, obk_own] at e0 e1 e2 e3 e4 e5
      exact ⟨_, obk s1o ++ (obk s2o ++ (obk oj ++ S)), rfl, ⟨s1o, s1c, s2o, s2c, oj, cj, obk s1o, obk s2o, obk oj ++ S, rfl, ⟨h4, rfl⟩, ⟨h5, rfl⟩, ⟨xs, S, h1, rfl, h3⟩, rfl⟩,
        hN1.app (hN2.app (h2.app hSS e0) (fun b hb hb' => (List.mem_append.1 hb').elim (e4 b hb) (e5 b hb))) (fun b hb hb' => (List.mem_append.1 hb').elim (e1 b hb) fun h => (List.mem_append.1 h).elim (e2 b hb) (e3 b hb)), st.chg⟩

end
end Go.Proofs.YtnmhlpnapgojjaaGreatDoor


namespace Go.Proofs.YtnmhlpnapgojjaaGreatDoor
open Go.RowKit Sx LexS _root_.Go.Proofs.Tryz
def t1 (e : Env) (x : Th) : Th := x.setNm (e.g x.nm)
def t2 (e : Env) (x : Th) : Th := (t1 e x).setAt (e.h x.a)
def t3 (e : Env) (x : Th) : Th := (t2 e x).setLocals (x.locals.map (trD e.g e.h))
/-- what a tree is turned by, as a caller has it -/
structure Fns where
 g : List UInt8 → List UInt8
 h : Int → Int
 fn : Nat
 fa : Nat
 cn : List Value
 ca : List Value
 E : List Nat
 ψ : World → Prop
structure Fns.Ok (f : Fns) : Prop where
 nm : ∀ s w, f.ψ w → Ret Tryz.prog f.fn ([] ++ [str s] ++ f.cn) w fun v w' => v = str (f.g s) ∧ w' = w
 at_ : ∀ a w, f.ψ w → Ret Tryz.prog f.fa ([] ++ [.int .i64 a] ++ f.ca) w fun v w' => v = .int .i64 (f.h a) ∧ w' = w
 loc : ∀ w w', f.ψ w → (∀ b ∈ f.E, w'.heap[b]? = w.heap[b]?) → f.ψ w'
 calln : ∀ (xs : Array Value) w, (callFunc f.fn xs).run Tryz.prog w = .ok (.enter f.fn xs) w
 calla : ∀ (xs : Array Value) w, (callFunc f.fa xs).run Tryz.prog w = .ok (.enter f.fa xs) w
def Fns.env (f : Fns) (bn ba be bs : Nat) : Env := ⟨f.g, f.h, f.fn, f.fa, f.cn, f.ca, bn, ba, be, bs, bn :: ba :: be :: bs :: f.E, f.ψ⟩
theorem Fns.Ok.env {f : Fns} (ok : f.Ok) (bn ba be bs : Nat) : (f.env bn ba be bs).Ok :=
 ⟨ok.nm, ok.at_, fun w w' h hk => ok.loc w w' h fun b hb => hk b (by simp [Fns.env, hb]), by simp [Fns.env], by simp [Fns.env], by simp [Fns.env], by simp [Fns.env], ok.calln, ok.calla⟩

set_option maxHeartbeats 4000000 in
theorem turned_any (f : Fns) (ok : f.Ok) {n0 : Nat} (p : Pg) (hok : OkP p) (os ol ot : Option Addr) (cs cl ct : Nat) (w : World) (hSh : DcRow w (· < n0) os p.shared) (hL : DcRow w (· < n0) ol p.locks) (hT : ThRow w (· < n0) ot p.threads) (hn0 : n0 ≤ w.heap.size) (hψ0 : f.ψ w) (hE0 : ∀ b ∈ f.E, b < w.heap.size) :
    Ret Tryz.prog 55 [.agg (pgL p os ol ot cs cl ct).toArray, .func (.func f.fn) #[] f.cn.toArray, .func (.func f.fa) #[] f.ca.toArray] w fun v w' => ∃ l S, v = .agg l.toArray ∧ PgQ w' (trP f.g f.h p) l S ∧ Nw w.heap.size S ∧ Chg [] w w' := by
 refine ret_of [_, _, _] func55 rfl ntmps55 rfl ?_
 have st := St.init w []
 obtain ⟨w0, rfl⟩ : ∃ w0, w0 = w := ⟨_, rfl⟩
 have hn1 := hok.1.1
 have hn2 := hok.2.1.1
 have hn3 := hok.2.2.1
 have hψ : ∀ {w : World}, Chg [] w0 w → f.ψ w := fun c => ok.loc _ _ hψ0 fun b hb => c.block b (hE0 b hb) (by simp)
 refine vc_seq (vc_region ?_)
 refine vc_e (e_bx (l := [_, _, _]) st rfl rfl rfl rfl ?_)
 intro b3 w hb3 st
 refine vc_e (e_bx (l := [_]) st rfl rfl rfl rfl ?_)
 intro b4 w hb4 st
 refine vc_e (e_bx (l := [_]) st rfl rfl rfl rfl ?_)
 intro b5 w hb5 st
 refine vc_e (e_al (l := [_, _, _]) st rfl rfl zeroValue26 rfl ?_)
 intro b6 w hb6 st
 refine vc_end (vq_then (vk4 3 4 5 6 (vc_seq (vc_region ?_))))
 refine yla st 3 [_, _, _] isAgg26 sizeOf26 ?_
 refine vc_e (e_call [_] rfl rfl call117 rfl (pcopyP_any p hok _ _ _ _ _ _ _ (RowC.kept hSh (Same.of_nil st.chg)) (RowC.kept hL (Same.of_nil st.chg)) (hT.kept (Same.of_nil st.chg)) (Nat.le_trans hn0 st.chg.size)) ?_)
 rintro _ w ⟨l, S, rfl, hQ, hN, cw⟩
 have hN := hN
 have hN0 := hN.le st.chg.size
 have hQ2 := hQ
 obtain ⟨os1, cs1, ol1, cl1, ot1, ct1, Ss, Sl, Stt, rfl, q1, q2, q3, rfl⟩ := hQ2
 replace st := St.pushR (r := .tree (Ss ++ (Sl ++ Stt)) (fun _ => True)) st cw (holds_of trivial hQ.lt (fun _ _ _ _ => trivial)) hN.2
 replace st := st.split (φ := fun w => DcRQ w os1 cs1 p.shared Ss) (ψ := fun _ => True) hN0.1 q1 trivial loc_dc (loc_of fun _ _ _ _ => trivial)
 replace st := (st.pick [1, 0, 2, 3, 4, 5] rfl (by decide)).split (φ := fun w => DcRQ w ol1 cl1 p.locks Sl) (ψ := fun w => ThRQ w ot1 ct1 p.threads Stt) hN0.right.1 q2 q3 loc_dc loc_th
 replace st := st.pick [1, 2, 0, 3, 4, 5, 6] rfl (by decide)
 have hN1 := hN0.left
 have hN2 := hN0.right.left
 have hN3 := hN0.right.right
 have hd12 := hN0.ne
 have hd23 := hN0.right.ne
 refine vc_e (e_al (l := [_, _, _]) st rfl rfl zeroValue26 rfl ?_)
 intro b7 w hb7 st
 refine vc_e (e_sts (vs := [_, _, _]) st 0 rfl rfl rfl rfl rfl sizeOf26 rfl rfl (by (right; assumption)) ?_)
 intro w st; dsimp only [setNth, wr] at st
 refine vc_end (vq_then (vk4 4 5 6 7 (vc_seq (vc_region ?_))))
 refine vy (y_mf [] [_, _] rfl rfl) ?_
 refine ya ?_
 refine vc_end (vq_then (vk5 4 5 6 7 8 (vc_seq (vc_region ?_))))
 refine vc_e (e_al (l := [_]) st rfl rfl zeroValue102 rfl ?_)
 intro b9 w hb9 st
 refine vc_end (vq_then (vk6 4 5 6 7 8 9 (vc_seq (vc_region ?_))))
 refine vy (y_mf [] [_, _, _] rfl rfl) ?_
 refine vc_e (e_st st 0 rfl rfl rfl rfl sizeOf102 rfl rfl (by (right; assumption)) ?_)
 intro w st; dsimp only [setNth, wr] at st
 refine vc_end (vq_then (vk6 4 5 6 7 8 9 (vc_seq (vc_region ?_))))
 refine vc_e (e_al (l := [_]) st rfl rfl zeroValue103 rfl ?_)
 intro b10 w hb10 st
 refine vc_end (vq_then (vk7 4 5 6 7 8 9 10 (vc_seq (vc_region ?_))))
 refine vy (y_mf [] [_, _, _, _] rfl rfl) ?_
 refine vc_e (e_st st 0 rfl rfl rfl rfl sizeOf103 rfl rfl (by (right; assumption)) ?_)
 intro w st; dsimp only [setNth, wr] at st
 refine vc_end (vq_then (vk6 4 5 6 7 8 10 (vc_seq (vc_region ?_))))
 have hok9 := ok.env b4 b5 b9 b10
 refine ym ?_
 refine vy (y_fa0 rfl underlying26 rfl rfl sizeOf23 rfl) ?_
 refine yl st 2 isAgg23 ?_
 refine vc_e (e_callv [_] rfl rfl rfl call118 rfl (dl_any (f.env b4 b5 b9 b10) hok9 p.shared hn1 os1 cs1 Ss _ (st.res (i := 4) rfl).1 hN1.1 ⟨st.res (i := 8) rfl, st.res (i := 7) rfl, hψ st.chg⟩ (fun k hk => by
     simp only [Fns.env, List.mem_cons] at hk
     rcases hk with rfl | rfl | rfl | rfl | h
     · exact st.lt (mem_nth (i := 8) rfl) (.head _)
     · exact st.lt (mem_nth (i := 7) rfl) (.head _)
     · exact st.lt (mem_nth (i := 1) rfl) (.head _)
     · exact st.lt (mem_nth (i := 0) rfl) (.head _)
     · exact Nat.lt_of_lt_of_le (hE0 k h) st.chg.size) (fun k hk hk' => by
     simp only [Fns.env, List.mem_cons] at hk'
     rcases hk' with rfl | rfl | rfl | rfl | h
     · exact st.ne (i := 4) (j := 8) (by decide) rfl rfl _ (hk) (.head _)
     · exact st.ne (i := 4) (j := 7) (by decide) rfl rfl _ (hk) (.head _)
     · exact st.ne (i := 4) (j := 1) (by decide) rfl rfl _ (hk) (.head _)
     · exact st.ne (i := 4) (j := 0) (by decide) rfl rfl _ (hk) (.head _)
     · have := hE0 k h; have := hN1.2 k hk; omega)) ?_)
 rintro _ w ⟨rfl, hq, hc⟩
 replace st := st.withinI (i := 4) (fun w => DcRQ w os1 cs1 (p.shared.map (trD f.g f.h)) Ss) rfl hc (fun k hk => hk) (fun k hk => .inr (hN1.2 k hk)) hq loc_dc
 dsimp only [setNth] at st
 refine vc_end (vq_then (vk6 4 5 6 7 8 10 (vc_seq (vc_region ?_))))
 refine ym ?_
 refine yfz 1 underlying26 sizeOf23 ?_
 refine yl st 2 isAgg23 ?_
 refine vc_e (e_callv [_] rfl rfl rfl call118 rfl (dl_any (f.env b4 b5 b9 b10) hok9 p.locks hn2 ol1 cl1 Sl _ (st.res (i := 5) rfl).1 hN2.1 ⟨st.res (i := 8) rfl, st.res (i := 7) rfl, hψ st.chg⟩ (fun k hk => by
     simp only [Fns.env, List.mem_cons] at hk
     rcases hk with rfl | rfl | rfl | rfl | h
     · exact st.lt (mem_nth (i := 8) rfl) (.head _)
     · exact st.lt (mem_nth (i := 7) rfl) (.head _)
     · exact st.lt (mem_nth (i := 1) rfl) (.head _)
     · exact st.lt (mem_nth (i := 0) rfl) (.head _)
     · exact Nat.lt_of_lt_of_le (hE0 k h) st.chg.size) (fun k hk hk' => by
     simp only [Fns.env, List.mem_cons] at hk'
     rcases hk' with rfl | rfl | rfl | rfl | h
     · exact st.ne (i := 5) (j := 8) (by decide) rfl rfl _ (hk) (.head _)
     · exact st.ne (i := 5) (j := 7) (by decide) rfl rfl _ (hk) (.head _)
     · exact st.ne (i := 5) (j := 1) (by decide) rfl rfl _ (hk) (.head _)
     · exact st.ne (i := 5) (j := 0) (by decide) rfl rfl _ (hk) (.head _)
     · have := hE0 k h; have := hN2.2 k hk; omega)) ?_)
 rintro _ w ⟨rfl, hq, hc⟩
 replace st := st.withinI (i := 5) (fun w => DcRQ w ol1 cl1 (p.locks.map (trD f.g f.h)) Sl) rfl hc (fun k hk => hk) (fun k hk => .inr (hN2.2 k hk)) hq loc_dc
 dsimp only [setNth] at st
 refine vc_end (vq_then (vk6 4 5 6 7 8 10 (vc_seq (vc_seq (vc_region ?_)))))
 refine yfz 2 underlying26 sizeOf24 ?_
 refine yl st 2 isAgg24 ?_
 refine vy (y_lensl rfl underlying24) ?_
 refine ym ?_
 refine vc_end (vq_then (vk8 4 5 6 7 8 10 28 29 (vc_block ?_)))
 refine vc_loop (w0 := w0) (M := []) (fun (j : Nat) => [(4, .pointer (some ⟨b4, 0, none⟩)), (5, .pointer (some ⟨b5, 0, none⟩)), (6, .pointer (some ⟨b6, 0, none⟩)), (7, .pointer (some ⟨b7, 0, none⟩)), (8, .func (.func 118) #[] [.pointer (some ⟨b4, 0, none⟩), .pointer (some ⟨b5, 0, none⟩)].toArray), (10, .pointer (some ⟨b10, 0, none⟩)), (28, .int .i64 (p.threads.length : Int)), (29, .int .i64 (j : Int))]) (fun j => [.tree Stt (fun w => ThRQ w ot1 ct1 (mixL (trT f.g f.h) p.threads j) Stt), .tree Ss (fun w => DcRQ w os1 cs1 (p.shared.map (trD f.g f.h)) Ss), .tree Sl (fun w => DcRQ w ol1 cl1 (p.locks.map (trD f.g f.h)) Sl), .blk b10 (.cells [.func (.func 120) #[] [.pointer (some ⟨b4, 0, none⟩), .pointer (some ⟨b5, 0, none⟩), .pointer (some ⟨b9, 0, none⟩), .pointer (some ⟨b10, 0, none⟩)].toArray].toArray 103 (0, 0)), .blk b9 (.cells [.func (.func 119) #[] [.pointer (some ⟨b4, 0, none⟩), .pointer (some ⟨b5, 0, none⟩), .pointer (some ⟨b9, 0, none⟩)].toArray].toArray 102 (0, 0)), .blk b7 (.cells [.slice os1 p.shared.length cs1, .slice ol1 p.locks.length cl1, .slice ot1 p.threads.length ct1].toArray 26 (0, 0)), .blk b6 (.cells [.slice none 0 0, .slice none 0 0, .slice none 0 0].toArray 26 (0, 0)), .blk b5 (.cells [.func (.func f.fa) #[] f.ca.toArray].toArray 97 (0, 0)), .blk b4 (.cells [.func (.func f.fn) #[] f.cn.toArray].toArray 95 (0, 0))]) (fun j _ => j ≤ p.threads.length) (fun j => p.threads.length - j) 0 ⟨rfl, rfl, rfl, rfl, rfl, rfl, rfl, rfl, trivial⟩ (by simpa only [mixL_zero] using st.pick [3, 4, 5, 0, 1, 2, 6, 7, 8] rfl (by decide)) (by omega) ?_
 clear st
 rintro j w hj st
 refine vc_seq (vc_region ?_)
 refine vy (y_lss rfl rfl) ?_
 refine vc_end (vq_then (vk9 4 5 6 7 8 10 28 29 30 (vc_seq ?_)))
 refine vc_ifs rfl ?_ ?_
 ·intro hc30
  try simp only [dn] at hc30
  obtain ⟨x, hx⟩ : ∃ x, p.threads[j]? = some x := ⟨_, List.getElem?_eq_getElem (by omega)⟩
  have hkx := hok.2.2.2 j x hx
  have hm0 := mixL_get (f := trT f.g f.h) hx
  have hm1 : (((mixL (trT f.g f.h) p.threads j)).set j (t1 (f.env b4 b5 b9 b10) x))[j]? = some (t1 (f.env b4 b5 b9 b10) x) := set_get hm0
  have hm2 : (((mixL (trT f.g f.h) p.threads j)).set j (t2 (f.env b4 b5 b9 b10) x))[j]? = some (t2 (f.env b4 b5 b9 b10) x) := set_get hm0
  have hm3 : (((mixL (trT f.g f.h) p.threads j)).set j (t3 (f.env b4 b5 b9 b10) x))[j]? = some (t3 (f.env b4 b5 b9 b10) x) := set_get hm0
  have h12 : (((mixL (trT f.g f.h) p.threads j)).set j (t1 (f.env b4 b5 b9 b10) x)).set j ((t1 (f.env b4 b5 b9 b10) x).setAt (f.h x.a)) = (((mixL (trT f.g f.h) p.threads j)).set j (t2 (f.env b4 b5 b9 b10) x)) := List.set_set ..
  have h23 : (((mixL (trT f.g f.h) p.threads j)).set j (t2 (f.env b4 b5 b9 b10) x)).set j ((t2 (f.env b4 b5 b9 b10) x).setLocals (x.locals.map (trD f.g f.h))) = (((mixL (trT f.g f.h) p.threads j)).set j (t3 (f.env b4 b5 b9 b10) x)) := List.set_set ..
  have h34 : (((mixL (trT f.g f.h) p.threads j)).set j (t3 (f.env b4 b5 b9 b10) x)).set j ((t3 (f.env b4 b5 b9 b10) x).setBody (trSs f.g f.h x.body)) = mixL (trT f.g f.h) p.threads (j + 1) := by rw [List.set_set]; exact mixL_step (f := trT f.g f.h) hx
  have stK := st
  obtain ⟨b, _, _, _, _, _, _, rfl, -⟩ := thR_focus (st.res (i := 0) rfl).1 hN3.1 hm0
  have st := stK
  clear stK
  have hcell0 : ∀ w, ThRQ w (some ⟨b, 0, none⟩) ct1 (mixL (trT f.g f.h) p.threads j) Stt → w.cell? ⟨b, j * 4 + 0, none⟩ = some (str x.nm) ∧ w.cell? ⟨b, j * 4 + 3, none⟩ = some (.int .i64 x.a) := fun w h => by
   obtain ⟨b', _, _, _, _, _, _, hb', -, hc, -⟩ := thR_focus h hN3.1 hm0
   simp only [Option.some.injEq, Addr.mk.injEq, and_true] at hb'
   subst hb'
   exact ⟨hc 0 _ rfl, hc 3 _ rfl⟩
  refine vc_code_skip (vq_then (vk8 4 5 6 7 8 10 28 29 (vc_seq (vc_block (vc_seq (vc_region ?_))))))
  refine ym ?_
  refine ya ?_
  refine vc_end (vq_then (vk9 4 5 6 7 8 10 11 28 29 (vc_seq (vc_region ?_))))
  refine yfz 2 underlying26 sizeOf24 ?_
  refine yl st 5 isAgg24 ?_
  refine ym ?_
  refine vy (y_ia0 (k := j) rfl rfl underlying24 sizeOf69 rfl (by omega)) ?_
  refine ya ?_
  refine vc_end (vq_then (vk9 4 5 6 7 8 10 12 28 29 (vc_seq ?_)))
  refine vk_draw Tryz.mixed [(0, true), (1, true), (3, true), (4, true), (5, true), (9, true), (10, true), (11, true), (2, true), (6, true), (8, true), (12, true), (7, false), (13, false), (14, true), (15, true), (16, false), (17, true), (18, true), (19, false)] 16 (fun w => St _ _ [.tree Stt (fun w => ThRQ w (some ⟨b, 0, none⟩) ct1 (mixL (trT f.g f.h) p.threads j) Stt), .tree Ss (fun w => DcRQ w os1 cs1 (p.shared.map (trD f.g f.h)) Ss), .tree Sl (fun w => DcRQ w ol1 cl1 (p.locks.map (trD f.g f.h)) Sl), .blk b10 (.cells [.func (.func 120) #[] [.pointer (some ⟨b4, 0, none⟩), .pointer (some ⟨b5, 0, none⟩), .pointer (some ⟨b9, 0, none⟩), .pointer (some ⟨b10, 0, none⟩)].toArray].toArray 103 (0, 0)), .blk b9 (.cells [.func (.func 119) #[] [.pointer (some ⟨b4, 0, none⟩), .pointer (some ⟨b5, 0, none⟩), .pointer (some ⟨b9, 0, none⟩)].toArray].toArray 102 (0, 0)), .blk b7 (.cells [.slice os1 p.shared.length cs1, .slice ol1 p.locks.length cl1, .slice (some ⟨b, 0, none⟩) p.threads.length ct1].toArray 26 (0, 0)), .blk b6 (.cells [.slice none 0 0, .slice none 0 0, .slice none 0 0].toArray 26 (0, 0)), .blk b5 (.cells [.func (.func f.fa) #[] f.ca.toArray].toArray 97 (0, 0)), .blk b4 (.cells [.func (.func f.fn) #[] f.cn.toArray].toArray 95 (0, 0))] w) (by exact st) (by kernel_rfl) (by repeat (first | exact okQ_body | refine okQ_then ?_ | refine okQ_block ?_)) rfl (by kernel_rfl) rfl ?_
  intro w cd; replace st := st.call0 cd; clear cd
  have hS : St _ _ [.tree Stt (fun w => ThRQ w (some ⟨b, 0, none⟩) ct1 (mixL (trT f.g f.h) p.threads j) Stt), .tree Ss (fun w => DcRQ w os1 cs1 (p.shared.map (trD f.g f.h)) Ss), .tree Sl (fun w => DcRQ w ol1 cl1 (p.locks.map (trD f.g f.h)) Sl), .blk b10 (.cells [.func (.func 120) #[] [.pointer (some ⟨b4, 0, none⟩), .pointer (some ⟨b5, 0, none⟩), .pointer (some ⟨b9, 0, none⟩), .pointer (some ⟨b10, 0, none⟩)].toArray].toArray 103 (0, 0)), .blk b9 (.cells [.func (.func 119) #[] [.pointer (some ⟨b4, 0, none⟩), .pointer (some ⟨b5, 0, none⟩), .pointer (some ⟨b9, 0, none⟩)].toArray].toArray 102 (0, 0)), .blk b7 (.cells [.slice os1 p.shared.length cs1, .slice ol1 p.locks.length cl1, .slice (some ⟨b, 0, none⟩) p.threads.length ct1].toArray 26 (0, 0)), .blk b6 (.cells [.slice none 0 0, .slice none 0 0, .slice none 0 0].toArray 26 (0, 0)), .blk b5 (.cells [.func (.func f.fa) #[] f.ca.toArray].toArray 97 (0, 0)), .blk b4 (.cells [.func (.func f.fn) #[] f.cn.toArray].toArray 95 (0, 0))] w := (by exact st)
  iterate 3 refine vk_takeU rfl rfl rfl rfl (fun _ => hS) (fun w => y_mv rfl) ?_
  refine vk_takeU rfl rfl rfl rfl (fun _ => hS) (fun w => y_nck rfl) ?_
  refine vk_takeU rfl rfl rfl rfl (fun _ => hS) (fun w => y_fa0 rfl underlying69 rfl rfl sizeOf9 rfl) ?_
  refine vk_takeU rfl rfl rfl rfl (fun _ => hS) (fun w => y_mv rfl) ?_
  refine vk_takeU rfl rfl rfl rfl (fun _ => hS) (fun w => y_nck rfl) ?_
  refine vk_takeU rfl rfl rfl rfl (fun _ => hS) (fun w => (by exact y_fa (k := 3) rfl underlying69 rfl rfl sizeOf3 rfl)) ?_
  refine vk_take rfl rfl rfl rfl hS (fun w st => y_ld st 8 rfl isAgg95 rfl rfl) ?_
  refine vk_take rfl rfl rfl rfl hS (fun w st => y_ldc rfl isAgg9 (hcell0 _ (st.res (i := 0) rfl).1).1) ?_
  refine vk_take rfl rfl rfl rfl hS (fun w st => y_ld st 7 rfl isAgg97 rfl rfl) ?_
  refine vk_take rfl rfl rfl rfl hS (fun w st => y_ldc rfl isAgg3 (hcell0 _ (st.res (i := 0) rfl).1).2) ?_
  refine vk_do rfl rfl (e_callv [_] rfl rfl rfl ok.calln rfl (ok.nm x.nm _ (hψ st.chg)) ?_)
  rintro _ _ ⟨rfl, rfl⟩
  refine vk_next (by exact st) ?_; intro hS
  refine vk_do rfl rfl (e_callv [_] rfl rfl rfl ok.calla rfl (ok.at_ x.a _ (hψ st.chg)) ?_)
  rintro _ _ ⟨rfl, rfl⟩
  refine vk_next (by exact st) ?_; intro hS
  refine vk_takeU rfl rfl rfl rfl (fun _ => hS) (fun w => y_nck rfl) ?_
  refine vk_takeU rfl rfl rfl rfl (fun _ => hS) (fun w => y_fa0 rfl underlying69 rfl rfl sizeOf9 rfl) ?_
  obtain ⟨c1, om1, cm1, on1, cn1, Sl1, Sb1, hb1, r1, k1, ql1, qb1, nl1, nb1, ul1, ub1, z1, z2, pl1, pb1⟩ := thR_focus (st.res (i := 0) rfl).1 hN3.1 hm0
  simp only [Option.some.injEq, Addr.mk.injEq, and_true] at hb1
  subst hb1
  refine vk_do rfl rfl (e_stT st 0 (ψ := fun w => ThRQ w (some ⟨b, 0, none⟩) ct1 (((mixL (trT f.g f.h) p.threads j)).set j (t1 (f.env b4 b5 b9 b10) x)) Stt) rfl rfl rfl rfl sizeOf9 rfl r1.mem (.inr (hN3.2 _ r1.mem)) ⟨_, k1 0 _ rfl⟩ (r1.fz _) (z1 _) loc_th ?_)
  intro w st; dsimp only [setNth] at st
  refine vk_late ?_
  refine vk_takeU rfl rfl rfl rfl (fun h => by cases h) (fun w => y_nck rfl) ?_
  refine vk_takeU rfl rfl rfl rfl (fun h => by cases h) (fun w => (by exact y_fa (k := 3) rfl underlying69 rfl rfl sizeOf3 rfl)) ?_
  clear z1 z2
  obtain ⟨c2, om2, cm2, on2, cn2, Sl2, Sb2, hb2, r2, k2, ql2, qb2, nl2, nb2, ul2, ub2, z1, z2, pl2, pb2⟩ := thR_focus (st.res (i := 0) rfl).1 hN3.1 hm1
  simp only [Option.some.injEq, Addr.mk.injEq, and_true] at hb2
  subst hb2
  refine vk_do rfl rfl (e_stT st 0 (ψ := fun w => ThRQ w (some ⟨b, 0, none⟩) ct1 (((mixL (trT f.g f.h) p.threads j)).set j (t2 (f.env b4 b5 b9 b10) x)) Stt) rfl rfl rfl rfl sizeOf3 rfl r2.mem (.inr (hN3.2 _ r2.mem)) ⟨_, k2 3 _ rfl⟩ (r2.fz _) (h12 ▸ z2 (f.h x.a)) loc_th ?_)
  intro w st; dsimp only [setNth] at st
  refine vk_late ?_
  refine vk_end ?_
  refine vq_then (vk9 4 5 6 7 8 10 12 28 29 (vc_seq (vc_region ?_)))
  clear z1 z2
  obtain ⟨c3, om3, cm3, on3, cn3, Sl3, Sb3, hb3, r3, k3, ql3, qb3, nl3, nb3, ul3, ub3, z1, z2, pl3, pb3⟩ := thR_focus (st.res (i := 0) rfl).1 hN3.1 hm2
  simp only [Option.some.injEq, Addr.mk.injEq, and_true] at hb3
  subst hb3
  iterate 2 refine ym ?_
  refine ynk ?_
  refine vy (y_fa (k := 1) rfl underlying69 rfl rfl sizeOf23 rfl) ?_
  refine vy (y_ldc rfl isAgg23 (k3 1 _ rfl)) ?_
  refine vc_e (e_callv [_] rfl rfl rfl call118 rfl (dl_any (f.env b4 b5 b9 b10) hok9 x.locals hkx.1.1 om3 cm3 Sl3 _ ql3 nl3 ⟨st.res (i := 8) rfl, st.res (i := 7) rfl, hψ st.chg⟩ (fun k hk => by
      simp only [Fns.env, List.mem_cons] at hk
      rcases hk with rfl | rfl | rfl | rfl | h
      · exact st.lt (mem_nth (i := 8) rfl) (.head _)
      · exact st.lt (mem_nth (i := 7) rfl) (.head _)
      · exact st.lt (mem_nth (i := 4) rfl) (.head _)
      · exact st.lt (mem_nth (i := 3) rfl) (.head _)
      · exact Nat.lt_of_lt_of_le (hE0 k h) st.chg.size) (fun k hk hk' => by
      simp only [Fns.env, List.mem_cons] at hk'
      rcases hk' with rfl | rfl | rfl | rfl | h
      · exact st.ne (i := 0) (j := 8) (by decide) rfl rfl _ (ul3 k hk) (.head _)
      · exact st.ne (i := 0) (j := 7) (by decide) rfl rfl _ (ul3 k hk) (.head _)
      · exact st.ne (i := 0) (j := 4) (by decide) rfl rfl _ (ul3 k hk) (.head _)
      · exact st.ne (i := 0) (j := 3) (by decide) rfl rfl _ (ul3 k hk) (.head _)
      · have := hE0 k h; have := hN3.2 k (ul3 k hk); omega)) ?_)
  rintro _ w ⟨rfl, hq, hc⟩
  replace st := st.withinI (i := 0) (fun w => ThRQ w (some ⟨b, 0, none⟩) ct1 (((mixL (trT f.g f.h) p.threads j)).set j (t3 (f.env b4 b5 b9 b10) x)) Stt) rfl hc ul3 (fun k hk => .inr (hN3.2 k hk)) (h23 ▸ pl3 w (x.locals.map (trD f.g f.h)) (by rw [List.length_map]; rfl) hq hc) loc_th
  dsimp only [setNth] at st
  refine vc_end (vq_then (vk9 4 5 6 7 8 10 12 28 29 ?_))
  refine vk_draw Tryz.mixed [(1, true), (2, true), (3, true), (0, true), (4, false), (5, false)] 5 (fun w => St _ _ [.tree Stt (fun w => ThRQ w (some ⟨b, 0, none⟩) ct1 (((mixL (trT f.g f.h) p.threads j)).set j (t3 (f.env b4 b5 b9 b10) x)) Stt), .tree Ss (fun w => DcRQ w os1 cs1 (p.shared.map (trD f.g f.h)) Ss), .tree Sl (fun w => DcRQ w ol1 cl1 (p.locks.map (trD f.g f.h)) Sl), .blk b10 (.cells [.func (.func 120) #[] [.pointer (some ⟨b4, 0, none⟩), .pointer (some ⟨b5, 0, none⟩), .pointer (some ⟨b9, 0, none⟩), .pointer (some ⟨b10, 0, none⟩)].toArray].toArray 103 (0, 0)), .blk b9 (.cells [.func (.func 119) #[] [.pointer (some ⟨b4, 0, none⟩), .pointer (some ⟨b5, 0, none⟩), .pointer (some ⟨b9, 0, none⟩)].toArray].toArray 102 (0, 0)), .blk b7 (.cells [.slice os1 p.shared.length cs1, .slice ol1 p.locks.length cl1, .slice (some ⟨b, 0, none⟩) p.threads.length ct1].toArray 26 (0, 0)), .blk b6 (.cells [.slice none 0 0, .slice none 0 0, .slice none 0 0].toArray 26 (0, 0)), .blk b5 (.cells [.func (.func f.fa) #[] f.ca.toArray].toArray 97 (0, 0)), .blk b4 (.cells [.func (.func f.fn) #[] f.cn.toArray].toArray 95 (0, 0))] w) (by exact st) (by kernel_rfl) (by repeat (first | exact okQ_body | refine okQ_then ?_ | refine okQ_block ?_)) rfl (by kernel_rfl) rfl ?_
  intro w cd; replace st := st.call0 cd; clear cd
  have hS : St _ _ [.tree Stt (fun w => ThRQ w (some ⟨b, 0, none⟩) ct1 (((mixL (trT f.g f.h) p.threads j)).set j (t3 (f.env b4 b5 b9 b10) x)) Stt), .tree Ss (fun w => DcRQ w os1 cs1 (p.shared.map (trD f.g f.h)) Ss), .tree Sl (fun w => DcRQ w ol1 cl1 (p.locks.map (trD f.g f.h)) Sl), .blk b10 (.cells [.func (.func 120) #[] [.pointer (some ⟨b4, 0, none⟩), .pointer (some ⟨b5, 0, none⟩), .pointer (some ⟨b9, 0, none⟩), .pointer (some ⟨b10, 0, none⟩)].toArray].toArray 103 (0, 0)), .blk b9 (.cells [.func (.func 119) #[] [.pointer (some ⟨b4, 0, none⟩), .pointer (some ⟨b5, 0, none⟩), .pointer (some ⟨b9, 0, none⟩)].toArray].toArray 102 (0, 0)), .blk b7 (.cells [.slice os1 p.shared.length cs1, .slice ol1 p.locks.length cl1, .slice (some ⟨b, 0, none⟩) p.threads.length ct1].toArray 26 (0, 0)), .blk b6 (.cells [.slice none 0 0, .slice none 0 0, .slice none 0 0].toArray 26 (0, 0)), .blk b5 (.cells [.func (.func f.fa) #[] f.ca.toArray].toArray 97 (0, 0)), .blk b4 (.cells [.func (.func f.fn) #[] f.cn.toArray].toArray 95 (0, 0))] w := (by exact st)
  refine vk_takeU rfl rfl rfl rfl (fun _ => hS) (fun w => y_mv rfl) ?_
  refine vk_takeU rfl rfl rfl rfl (fun _ => hS) (fun w => y_nck rfl) ?_
  refine vk_takeU rfl rfl rfl rfl (fun _ => hS) (fun w => (by exact y_fa (k := 2) rfl underlying69 rfl rfl sizeOf65 rfl)) ?_
  refine vk_take rfl rfl rfl rfl hS (fun w st => y_ld st 3 rfl isAgg103 rfl rfl) ?_
  clear z1 z2
  obtain ⟨c4, om4, cm4, on4, cn4, Sl4, Sb4, hb4, r4, k4, ql4, qb4, nl4, nb4, ul4, ub4, z1, z2, pl4, pb4⟩ := thR_focus (st.res (i := 0) rfl).1 hN3.1 hm3
  simp only [Option.some.injEq, Addr.mk.injEq, and_true] at hb4
  subst hb4
  refine vk_do rfl rfl (e_run rfl rfl (y_ldc rfl isAgg65 (k4 2 _ rfl)) ?_)
  refine vk_next (by exact st) ?_; intro hS
  refine vk_do rfl rfl (e_callv [_] rfl rfl rfl call120 rfl (sl_any (f.env b4 b5 b9 b10) hok9 _ x.body rfl hkx.2.1 on4 cn4 Sb4 _ qb4 nb4 ⟨⟨⟨st.res (i := 8) rfl, st.res (i := 7) rfl, hψ st.chg⟩, st.res (i := 4) rfl⟩, st.res (i := 3) rfl⟩ (fun k hk => by
      simp only [Fns.env, List.mem_cons] at hk
      rcases hk with rfl | rfl | rfl | rfl | h
      · exact st.lt (mem_nth (i := 8) rfl) (.head _)
      · exact st.lt (mem_nth (i := 7) rfl) (.head _)
      · exact st.lt (mem_nth (i := 4) rfl) (.head _)
      · exact st.lt (mem_nth (i := 3) rfl) (.head _)
      · exact Nat.lt_of_lt_of_le (hE0 k h) st.chg.size) (fun k hk hk' => by
      simp only [Fns.env, List.mem_cons] at hk'
      rcases hk' with rfl | rfl | rfl | rfl | h
      · exact st.ne (i := 0) (j := 8) (by decide) rfl rfl _ (ub4 k hk) (.head _)
      · exact st.ne (i := 0) (j := 7) (by decide) rfl rfl _ (ub4 k hk) (.head _)
      · exact st.ne (i := 0) (j := 4) (by decide) rfl rfl _ (ub4 k hk) (.head _)
      · exact st.ne (i := 0) (j := 3) (by decide) rfl rfl _ (ub4 k hk) (.head _)
      · have := hE0 k h; have := hN3.2 k (ub4 k hk); omega)) ?_)
  rintro _ w ⟨rfl, hq, hc⟩
  replace st := st.withinI (i := 0) (fun w => ThRQ w (some ⟨b, 0, none⟩) ct1 (mixL (trT f.g f.h) p.threads (j + 1)) Stt) rfl hc ub4 (fun k hk => .inr (hN3.2 k hk)) (h34 ▸ pb4 w (trSs f.g f.h x.body) (by rw [trSs_len]; rfl) hq hc) loc_th
  dsimp only [setNth] at st
  refine vk_late ?_
  refine vk_end ?_
  refine vq_block (vq_then (vk8 4 5 6 7 8 10 28 29 (vc_region ?_)))
  refine vy (y_add rfl rfl (by omega : _ = ((j + 1 : Nat) : Int)) (by omega) (by omega)) ?_
  refine ym ?_
  refine vc_end ?_
  refine vq_again (j + 1)  ⟨rfl, rfl, rfl, rfl, rfl, rfl, rfl, rfl, trivial⟩ st ?_ ?_
  ·omega
  ·omega
 ·intro hc30
  try simp only [dn] at hc30
  obtain rfl : j = p.threads.length := by omega
  rw [mixL_all] at st
  refine vc_exit (vq_then_exit (vq_then_exit (vq_block_exit (vq_then (vk2 6 7 (vc_seq (vc_region ?_)))))))
  refine yla st 5 [_, _, _] isAgg26 sizeOf26 ?_
  refine vc_e (e_sts (vs := [_, _, _]) st 6 rfl rfl rfl rfl rfl sizeOf26 rfl rfl (by (right; assumption)) ?_)
  intro w st; dsimp only [setNth, wr] at st
  refine vc_end (vq_then (vk1 6 (vc_ret ?_)))
  refine vq_ret1 st (.inl rfl) results55 (by exact .cell 6 rfl rfl isAgg26 sizeOf26) ?_
  refine ⟨_, rfl, ?_⟩
  exact ⟨_, Ss ++ (Sl ++ Stt), rfl, ⟨os1, cs1, ol1, cl1, ot1, ct1, Ss, Sl, Stt, by simp [trP], (st.res (i := 1) rfl).1, (st.res (i := 2) rfl).1, (st.res (i := 0) rfl).1, rfl⟩, hN0, st.chg⟩

end Go.Proofs.YtnmhlpnapgojjaaGreatDoor


/- How long a tree's text is: no program in sight. -/
namespace LexS
open Sx
end LexS


/- Places change no text: no program in sight. -/
namespace LexS
open Sx
abbrev idS : List UInt8 → List UInt8 := fun s => s
section
variable {h : Int → Int}
end
/-! ### twice -/
section
variable {g : List UInt8 → List UInt8} {h g' : List UInt8 → List UInt8} {k k' : Int → Int}
end
/-! ### the numbers stay of their kinds -/
section
variable {g : List UInt8 → List UInt8} {k : Int → Int} (hk : ∀ a, i64 a → i64 (k a))
include hk
theorem okE_tr : ∀ (n : Nat) (e : Ex), SizeOf.sizeOf e = n → OkE e → OkE (trE g k e) := by
  intro n
  refine Nat.strongRecOn n fun n ih e hn hok => ?_
  subst hn
  rw [trE_eq, trEs_map]
  refine .mk hok.k hok.op hok.wd (hk _ hok.a) (by simpa using hok.kids.1) fun j x hx => ?_
  rw [List.getElem?_map] at hx
  cases hj : e.kids[j]? with
  | none => rw [hj] at hx; cases hx
  | some y =>
    rw [hj] at hx
    cases hx
    exact ih _ (memE_lt (List.mem_of_getElem? hj)) y rfl (hok.kid hj)
theorem okEs_tr {l : List Ex} (h : OkEs l) : OkEs (trEs g k l) := by
  rw [trEs_map]
  refine ⟨by simpa using h.1, fun j x hx => ?_⟩
  rw [List.getElem?_map] at hx
  cases hj : l[j]? with
  | none => rw [hj] at hx; cases hx
  | some y => rw [hj] at hx; cases hx; exact okE_tr hk _ y rfl (h.2 j y hj)
theorem okS_tr : ∀ (n : Nat) (s : Sm), SizeOf.sizeOf s = n → OkS s → OkS (trS g k s) := by
  intro n
  refine Nat.strongRecOn n fun n ih s hn hok => ?_
  subst hn
  rw [trS_eq, trSs_map, trSs_map]
  have key : ∀ (l : List Sm), (∀ x ∈ l, SizeOf.sizeOf x < SizeOf.sizeOf s) → OkSs l → ∀ (j : Nat) x, (l.map (trS g k))[j]? = some x → OkS x := fun l hl h j x hx => by
    rw [List.getElem?_map] at hx
    cases hj : l[j]? with
    | none => rw [hj] at hx; cases hx
    | some y => rw [hj] at hx; cases hx; exact ih _ (hl y (List.mem_of_getElem? hj)) y rfl (h.2 j y hj)
  exact .mk hok.k (hk _ hok.a) (okEs_tr hk hok.e) (by simpa using hok.body.1) (key _ (fun x hx => memS_lt (.inl hx)) hok.body) (by simpa using hok.els.1) (key _ (fun x hx => memS_lt (.inr hx)) hok.els)
theorem okSs_tr {l : List Sm} (h : OkSs l) : OkSs (trSs g k l) := by
  rw [trSs_map]
  refine ⟨by simpa using h.1, fun j x hx => ?_⟩
  rw [List.getElem?_map] at hx
  cases hj : l[j]? with
  | none => rw [hj] at hx; cases hx
  | some y => rw [hj] at hx; cases hx; exact okS_tr hk _ y rfl (h.2 j y hj)
theorem okD_tr {l : List Dc} (h : OkD l) : OkD (l.map (trD g k)) := by
  refine ⟨by simpa using h.1, fun j x hx => ?_⟩
  rw [List.getElem?_map] at hx
  cases hj : l[j]? with
  | none => rw [hj] at hx; cases hx
  | some y => rw [hj] at hx; cases hx; exact ⟨(h.2 j y hj).1, hk _ (h.2 j y hj).2⟩
theorem okP_tr {p : Pg} (h : OkP p) : OkP (trP g k p) := by
  refine ⟨okD_tr hk h.1, okD_tr hk h.2.1, by simpa [trP] using h.2.2.1, fun j t hj => ?_⟩
  simp only [trP, List.getElem?_map] at hj
  cases hx : p.threads[j]? with
  | none => rw [hx] at hj; cases hj
  | some y =>
    rw [hx] at hj
    cases hj
    obtain ⟨h1, h2, h3⟩ := h.2.2.2 j y hx
    exact ⟨okD_tr hk h1, okSs_tr hk h2, hk _ h3⟩
end
end LexS


namespace Go.Proofs.YtnmhlpnapgojjaaGreatDoor
open Go.RowKit Sx LexS _root_.Go.Proofs.Tryz
abbrev no0 : Int → Int := fun _ => 0
abbrev stripP (p : Pg) : Pg := trP idS no0 p

theorem strip1_any (s : List UInt8) (w : World) : Ret Tryz.prog 70 [str s] w fun v w' => v = str s ∧ w' = w := by
 refine ret_of [_] func70 rfl ntmps70 rfl ?_
 have st := St.init w []
 refine vc_seq (vc_region ?_)
 refine ya ?_
 refine vc_end (vq_then (vk1 0 (vc_seq (vc_region ?_))))
 refine ym ?_
 refine ya ?_
 refine vc_end (vq_then (vk1 2 (vc_ret ?_)))
 refine vq_ret1 st (.inl rfl) results70 (.tmp rfl) ?_
 refine ⟨_, rfl, ?_⟩
 exact ⟨rfl, rfl⟩

theorem strip2_any (a : Int) (w : World) : Ret Tryz.prog 71 [.int .i64 a] w fun v w' => v = .int .i64 0 ∧ w' = w := by
 refine ret_of [_] func71 rfl ntmps71 rfl ?_
 have st := St.init w []
 refine vc_seq (vc_region ?_)
 refine ya ?_
 refine vc_end (vq_then (vc_keep [] trivial (vc_seq (vc_region ?_))))
 refine ya ?_
 refine vc_end (vq_then (vk1 2 (vc_ret ?_)))
 refine vq_ret1 st (.inl rfl) results71 (.tmp rfl) ?_
 refine ⟨_, rfl, ?_⟩
 exact ⟨rfl, rfl⟩

def fnsS : Fns := ⟨idS, no0, 70, 71, [], [], [], fun _ => True⟩
theorem fnsS_ok : fnsS.Ok := ⟨fun s w _ => strip1_any s w, fun a w _ => strip2_any a w, fun _ _ _ _ => trivial, call70, call71⟩

theorem strip_any {n0 : Nat} (p : Pg) (hok : OkP p) (os ol ot : Option Addr) (cs cl ct : Nat) (w : World) (hSh : DcRow w (· < n0) os p.shared) (hL : DcRow w (· < n0) ol p.locks) (hT : ThRow w (· < n0) ot p.threads) (hn0 : n0 ≤ w.heap.size) :
    Ret Tryz.prog 24 [.agg (pgL p os ol ot cs cl ct).toArray] w fun v w' => ∃ (gs gl gt : Option Addr) (gcs gcl gct : Nat) (S : List Nat), v = .agg (pgL (stripP p) gs gl gt gcs gcl gct).toArray ∧ PgQ w' (stripP p) (pgL (stripP p) gs gl gt gcs gcl gct) S ∧ Nw w.heap.size S ∧ Chg [] w w' := by
 refine ret_of [_] func24 rfl ntmps24 rfl ?_
 have st := St.init w []
 obtain ⟨w0, rfl⟩ : ∃ w0, w0 = w := ⟨_, rfl⟩
 refine vc_seq (vc_region ?_)
 refine vc_e (e_bx (l := [_, _, _]) st rfl rfl rfl rfl ?_)
 intro b1 w hb1 st
 refine vc_e (e_al (l := [_, _, _]) st rfl rfl zeroValue26 rfl ?_)
 intro b2 w hb2 st
 refine vc_end (vq_then (vk2 1 2 (vc_seq (vc_region ?_))))
 refine yla st 1 [_, _, _] isAgg26 sizeOf26 ?_
 refine vc_e (e_call [_, _, _] rfl rfl call55 rfl (turned_any fnsS fnsS_ok p hok _ _ _ _ _ _ _ (RowC.kept hSh (Same.of_nil st.chg)) (RowC.kept hL (Same.of_nil st.chg)) (hT.kept (Same.of_nil st.chg)) (Nat.le_trans hn0 st.chg.size) trivial (fun b hb => by cases hb)) ?_)
 rintro _ w ⟨l, S, rfl, hQ, hN, cw⟩
 have hQ2 := hQ
 obtain ⟨gs, gcs, gl, gcl, gt, gct, Sa, Sb, Sc, rfl, -⟩ := hQ2
 have hN9 := hN.le st.chg.size
 replace st := St.pushR (r := .tree S (fun w => PgQ w (stripP p) (pgL (stripP p) gs gl gt gcs gcl gct) S)) st cw (holds_of hQ hQ.lt (fun a b h hk => h.kept hk)) hN.2
 refine vc_e (e_sts (vs := [_, _, _]) st 1 rfl rfl rfl rfl rfl sizeOf26 rfl rfl (by (right; assumption)) ?_)
 intro w st; dsimp only [setNth, wr] at st
 refine vc_end (vq_then (vk1 2 (vc_ret ?_)))
 refine vq_ret1 st (.inl rfl) results24 (by exact .cell 1 rfl rfl isAgg26 sizeOf26) ?_
 refine ⟨_, rfl, ?_⟩
 exact ⟨gs, gl, gt, gcs, gcl, gct, S, rfl, (st.res (i := 0) rfl).1, hN9, st.chg⟩

end Go.Proofs.YtnmhlpnapgojjaaGreatDoor


namespace Go.Proofs.YtnmhlpnapgojjaaGreatDoor
open Go.RowKit Sx LexS _root_.Go.Proofs.Tryz
/-- a name that is changed for another -/
def renG (fr tn s : Wd) : Wd := if s = fr ∧ s ≠ [] then tn else s
abbrev idN : Int → Int := fun n => n
abbrev renP (p : Pg) (fr tn : Wd) : Pg := trP (renG fr tn) idN p
def renOk (p : Pg) (tn : Wd) : Bool := isName tn && !decide (tn ∈ namesL p)
theorem namesL_len (p : Pg) : (namesL p).length ≤ (nmsP p).length := by
 have := addAll_len (nmsP p) []
 simpa [namesL] using this
theorem contains_any (base : Nat) (ss : List Wd) (x : Wd) (oa : Option Addr) (cap : Nat) (w : World) (hn : ss.length ≤ 4398046511104) (ho : w.ownsRow base 9 1 (.slice oa ss.length cap) ss.length (ss.map str)) :
    Ret Tryz.prog 53 [.slice oa ss.length cap, str x] w fun v w' => v = .bool (decide (x ∈ ss)) ∧ w' = w := by
 rcases ho.2 with ⟨hnil, h0⟩ | ⟨g, cap', cur, hv, hbase, hb, h1, h2, h3, h4⟩
 ·have hs : ss = [] := List.length_eq_zero_iff.1 h0
  subst hs
  refine (Tryz.slices_Contains_string_empty oa cap ⟨x.toArray⟩ w).mono ?_
  rintro e w' ⟨rfl, rfl⟩
  exact ⟨_, rfl, by simp, rfl⟩
 ·simp only [Value.slice.injEq] at hv
  obtain ⟨rfl, -, rfl⟩ := hv
  have key := Tryz.slices_Contains_string g 0 ss.length cap (ss.map fun s => ⟨s.toArray⟩) ⟨x.toArray⟩ w (by simp) (by omega) (fun j hj => by
    have hj' : j < ss.length := by simpa using hj
    have h5 : (cur.toList.take (ss.length * 1))[j]? = (ss.map str)[j]? := by rw [h4]
    rw [List.getElem?_take_of_lt (by omega)] at h5
    simp only [World.cell?, hb, Nat.zero_add, Option.isSome_none, Bool.false_eq_true, if_false]
    rw [← Array.getElem?_toList, h5]
    simp [hj', str])
  refine key.mono ?_
  rintro e w' ⟨rfl, rfl⟩
  refine ⟨_, rfl, ?_, rfl⟩
  congr 1
  rw [Bool.eq_iff_iff, Lib.containsS_iff, List.take_of_length_le (by simp)]
  simp

theorem ren1_any (fr tn s : Wd) (b4 b5 : Nat) (w : World) (h4 : w.heap[b4]? = some (.cells [str fr].toArray 9 (0, 0))) (h5 : w.heap[b5]? = some (.cells [str tn].toArray 9 (0, 0))) :
    Ret Tryz.prog 54 [str s, .pointer (some ⟨b4, 0, none⟩), .pointer (some ⟨b5, 0, none⟩)] w fun v w' => v = str (renG fr tn s) ∧ w' = w := by
 refine ret_of [_, _, _] func54 rfl ntmps54 rfl ?_
 have st := St.init w []
 refine vc_seq (vc_region ?_)
 refine ya ?_
 refine vc_end (vq_then (vk3 0 1 2 (vc_seq (vc_seq (vc_region ?_)))))
 refine ym ?_
 refine vy (y_ldc rfl isAgg9 (cell_nth h4 rfl)) ?_
 refine vy (y_eqs rfl rfl) ?_
 refine vmb ?_ ?_
 ·intro hg8
  try simp only [dn] at hg8
  refine ym ?_
  refine vy (y_nes rfl rfl) ?_
  refine ypt ?_
  refine vc_end (vq_then (vk3 0 2 11 ?_))
  refine vc_ifs rfl ?_ ?_
  ·intro hc11
   try simp only [dn] at hc11
   refine vc_seq (vc_region ?_)
   refine vy (y_ldc rfl isAgg9 (cell_nth h5 rfl)) ?_
   refine ya ?_
   refine vc_end (vq_then (vk1 4 (vc_ret (vq_then_ret ?_))))
   refine vq_ret1 st (.inl rfl) results54 (.tmp rfl) ?_
   refine ⟨_, rfl, ?_⟩
   refine ⟨?_, rfl⟩
   unfold renG
   (rw [if_pos (by simp_all)]; done)
  ·intro hc11
   try simp only [dn] at hc11
   refine vc_code_skip (vq_then (vk1 0 (vc_seq (vc_region ?_))))
   refine ym ?_
   refine ya ?_
   refine vc_end (vq_then (vk1 4 (vc_ret ?_)))
   refine vq_ret1 st (.inl rfl) results54 (.tmp rfl) ?_
   refine ⟨_, rfl, ?_⟩
   refine ⟨?_, rfl⟩
   unfold renG
   (rw [if_neg (by simp_all)]; done)
 ·intro hg8
  try simp only [dn] at hg8
  iterate 2 refine vsk ?_
  refine ypf ?_
  refine vc_end (vq_then (vk3 0 2 11 ?_))
  refine vc_iff rfl ?_
  refine vc_code_skip (vq_then (vk1 0 (vc_seq (vc_region ?_))))
  refine ym ?_
  refine ya ?_
  refine vc_end (vq_then (vk1 4 (vc_ret ?_)))
  refine vq_ret1 st (.inl rfl) results54 (.tmp rfl) ?_
  refine ⟨_, rfl, ?_⟩
  refine ⟨?_, rfl⟩
  unfold renG
  (rw [if_neg (by simp_all)]; done)

theorem ren2_any (a : Int) (w : World) : Ret Tryz.prog 56 [.int .i64 a] w fun v w' => v = .int .i64 a ∧ w' = w := by
 refine ret_of [_] func56 rfl ntmps56 rfl ?_
 have st := St.init w []
 refine vc_seq (vc_region ?_)
 refine ya ?_
 refine vc_end (vq_then (vk1 0 (vc_seq (vc_region ?_))))
 refine ym ?_
 refine ya ?_
 refine vc_end (vq_then (vk1 2 (vc_ret ?_)))
 refine vq_ret1 st (.inl rfl) results56 (.tmp rfl) ?_
 refine ⟨_, rfl, ?_⟩
 exact ⟨rfl, rfl⟩

def fnsR (fr tn : Wd) (b4 b5 : Nat) : Fns := ⟨renG fr tn, idN, 54, 56, [.pointer (some ⟨b4, 0, none⟩), .pointer (some ⟨b5, 0, none⟩)], [], [b4, b5], fun w => w.heap[b4]? = some (.cells [str fr].toArray 9 (0, 0)) ∧ w.heap[b5]? = some (.cells [str tn].toArray 9 (0, 0))⟩
theorem fnsR_ok (fr tn : Wd) (b4 b5 : Nat) : (fnsR fr tn b4 b5).Ok := ⟨fun s w h => ren1_any fr tn s b4 b5 w h.1 h.2, fun a w _ => ren2_any a w, fun w w' h hk => ⟨by rw [hk b4 (by simp [fnsR])]; exact h.1, by rw [hk b5 (by simp [fnsR])]; exact h.2⟩, call54, call56⟩
abbrev noPg : List Value := [.slice none 0 0, .slice none 0 0, .slice none 0 0]
/-- what Rename answers -/
def RenV (p : Pg) (fr tn : Wd) (v : Value) (w w' : World) : Prop :=
 (pgOk p = false ∧ v = .tuple #[.agg noPg.toArray, .int .i64 40]) ∨ (pgOk p = true ∧ renOk p tn = false ∧ v = .tuple #[.agg noPg.toArray, .int .i64 2]) ∨
 (pgOk p = true ∧ renOk p tn = true ∧ ∃ (gs gl gt : Option Addr) (gcs gcl gct : Nat) (S : List Nat), v = .tuple #[.agg (pgL (renP p fr tn) gs gl gt gcs gcl gct).toArray, .int .i64 0] ∧ PgQ w' (renP p fr tn) (pgL (renP p fr tn) gs gl gt gcs gcl gct) S ∧ Nw w.heap.size S)

set_option maxHeartbeats 2000000 in
theorem rename_any {n0 : Nat} (p : Pg) (hok : OkP p) (fr tn : Wd) (os ol ot : Option Addr) (cs cl ct : Nat) (w : World) (hSh : DcRow w (· < n0) os p.shared) (hL : DcRow w (· < n0) ol p.locks) (hT : ThRow w (· < n0) ot p.threads) (hn0 : n0 ≤ w.heap.size) (hsg : Sig w) (hlen : (nmsP p).length ≤ 4398046511104) :
    Ret Tryz.prog 18 [.agg (pgL p os ol ot cs cl ct).toArray, str fr, str tn] w fun v w' => RenV p fr tn v w w' ∧ Chg [] w w' := by
 refine ret_of [_, _, _] func18 rfl ntmps18 rfl ?_
 have st := St.init w []
 obtain ⟨w0, rfl⟩ : ∃ w0, w0 = w := ⟨_, rfl⟩
 refine vc_seq (vc_region ?_)
 refine vc_e (e_bx (l := [_, _, _]) st rfl rfl rfl rfl ?_)
 intro b3 w hb3 st
 refine vc_e (e_bx (l := [_]) st rfl rfl rfl rfl ?_)
 intro b4 w hb4 st
 refine vc_e (e_bx (l := [_]) st rfl rfl rfl rfl ?_)
 intro b5 w hb5 st
 refine vc_e (e_al (l := [_, _, _]) st rfl rfl zeroValue26 rfl ?_)
 intro b6 w hb6 st
 refine ya ?_
 refine vc_end (vq_then (vk4 3 4 5 6 (vc_seq (vc_seq (vc_region ?_)))))
 refine yla st 3 [_, _, _] isAgg26 sizeOf26 ?_
 refine vc_e (e_call [_] rfl rfl call38 rfl (right_any p _ _ _ _ _ _ _ (RowC.kept hSh (Same.of_nil st.chg)) (RowC.kept hL (Same.of_nil st.chg)) (hT.kept (Same.of_nil st.chg)) hok (hsg.kept st.chg)) ?_)
 rintro _ w ⟨rfl, cw⟩
 replace st := st.call0 cw
 refine vy (y_not rfl) ?_
 refine vc_end (vq_then (vk5 3 4 5 6 11 ?_))
 refine vc_ifs rfl ?_ ?_
 ·intro hc11
  try simp only [dn] at hc11
  refine vc_seq (vc_region ?_)
  refine vy (y_bld (.agg #[_, _, _]) [] rfl (fun w => by simp [Instr.build, go_sem] <;> repeat' constructor)) ?_
  refine vc_e (e_sts (vs := [_, _, _]) st 0 rfl rfl rfl rfl rfl sizeOf26 rfl rfl (by (right; assumption)) ?_)
  intro w st; dsimp only [setNth, wr] at st
  refine ya ?_
  refine vc_end (vq_then (vk2 6 7 (vc_ret (vq_then_ret ?_))))
  refine vq_ret2 st (.inl rfl) results18 (by exact .cell 0 rfl rfl isAgg26 sizeOf26) (.tmp rfl) ?_
  refine ⟨_, rfl, ?_⟩
  refine ⟨.inl ⟨by assumption, rfl⟩, st.chg⟩
 ·intro hc11
  try simp only [dn] at hc11
  refine vc_code_skip (vq_then (vk4 3 4 5 6 (vc_seq (vc_seq ?_))))
  refine vc_draw Tryz.mixed [(0, true), (1, false), (2, true), (3, true), (4, true), (6, true), (5, false), (7, false), (8, true)] (fun w => St _ _ _ w) st (by kernel_rfl) (by repeat (first | exact okQ_body | refine okQ_then ?_ | refine okQ_block ?_)) rfl (by kernel_rfl) ?_
  intro w cd; replace st := st.call0 cd; clear cd
  have hS := st
  refine pld hS 1 isAgg9 ?_
  refine vp_do rfl (e_call [_] rfl rfl call52 rfl (name_any tn _) ?_)
  rintro _ _ ⟨rfl, rfl⟩
  refine vp_next (by exact st) ?_; intro hS
  refine vp_take rfl rfl rfl hS (fun w st => y_not rfl) ?_
  refine vp_part rfl rfl rfl hS rfl ?_ ?_
  ·intro hg16
   try simp only [dn] at hg16
   iterate 2 refine vp_skip rfl rfl rfl hS ?_
   refine vp_do rfl (e_skip rfl rfl (vp_next hS (fun hS => ?_)))
   refine vp_do rfl (e_skip rfl rfl (vp_next hS (fun hS => ?_)))
   refine vp_take rfl rfl rfl hS (fun w st => y_pickt rfl rfl) ?_
   refine vp_end (vq_then (vk5 3 4 5 6 21 ?_))
   refine vc_ift rfl ?_
   refine vc_seq (vc_region ?_)
   refine vy (y_bld (.agg #[_, _, _]) [] rfl (fun w => by simp [Instr.build, go_sem] <;> repeat' constructor)) ?_
   refine vc_e (e_sts (vs := [_, _, _]) st 0 rfl rfl rfl rfl rfl sizeOf26 rfl rfl (by (right; assumption)) ?_)
   intro w st; dsimp only [setNth, wr] at st
   refine ya ?_
   refine vc_end (vq_then (vk2 6 7 (vc_ret (vq_then_ret ?_))))
   refine vq_ret2 st (.inl rfl) results18 (by exact .cell 0 rfl rfl isAgg26 sizeOf26) (.tmp rfl) ?_
   refine ⟨_, rfl, ?_⟩
   refine ⟨?_, st.chg⟩
   have hp : pgOk p = true := by assumption
   (refine .inr (.inl ⟨hp, ?_, rfl⟩); unfold renOk; simp_all; done)
  ·intro hg16
   try simp only [dn] at hg16
   refine vp_take rfl rfl rfl hS (fun w st => y_lda (vs := [_, _, _]) st 3 rfl isAgg26 sizeOf26 rfl rfl) ?_
   refine pld hS 1 isAgg9 ?_
   refine vp_do rfl (e_call [_] rfl rfl call21 rfl (names_any (S := (· < n0)) p hok _ _ _ _ _ _ _ (fun b hb => Nat.lt_of_lt_of_le hb (Nat.le_trans hn0 st.chg.size)) (RowC.kept hSh (Same.of_nil st.chg)) (RowC.kept hL (Same.of_nil st.chg)) (hT.kept (Same.of_nil st.chg)) hlen) ?_)
   rintro _ w ⟨on, cn, rfl, ho, hc⟩
   have hoN := ho
   replace st := st.call0 hc
   refine vp_next (by exact st) ?_; intro hS
   refine vp_do rfl (e_call [_, _] rfl rfl call53 rfl (contains_any _ (namesL p) tn _ _ _ (by have := namesL_len p; omega) hoN) ?_)
   rintro _ _ ⟨rfl, rfl⟩
   refine vp_next (by exact st) ?_; intro hS
   refine vp_take rfl rfl rfl hS (fun w st => y_pickf rfl rfl) ?_
   refine vp_end (vq_then (vk5 3 4 5 6 21 ?_))
   refine vc_ifs rfl ?_ ?_
   ·intro hc21
    try simp only [dn] at hc21
    refine vc_seq (vc_region ?_)
    refine vy (y_bld (.agg #[_, _, _]) [] rfl (fun w => by simp [Instr.build, go_sem] <;> repeat' constructor)) ?_
    refine vc_e (e_sts (vs := [_, _, _]) st 0 rfl rfl rfl rfl rfl sizeOf26 rfl rfl (by (right; assumption)) ?_)
    intro w st; dsimp only [setNth, wr] at st
    refine ya ?_
    refine vc_end (vq_then (vk2 6 7 (vc_ret (vq_then_ret ?_))))
    refine vq_ret2 st (.inl rfl) results18 (by exact .cell 0 rfl rfl isAgg26 sizeOf26) (.tmp rfl) ?_
    refine ⟨_, rfl, ?_⟩
    refine ⟨?_, st.chg⟩
    have hp : pgOk p = true := by assumption
    (refine .inr (.inl ⟨hp, ?_, rfl⟩); unfold renOk; simp_all; done)
   ·intro hc21
    try simp only [dn] at hc21
    refine vc_code_skip (vq_then (vk4 3 4 5 6 (vc_seq (vc_region ?_))))
    refine vy (y_mf [] [_, _] rfl rfl) ?_
    refine ya ?_
    refine vc_end (vq_then (vk3 3 6 8 (vc_seq (vc_region ?_))))
    refine yla st 3 [_, _, _] isAgg26 sizeOf26 ?_
    refine ym ?_
    refine vc_e (e_call [_, _, _] rfl rfl call55 rfl (turned_any (fnsR fr tn b4 b5) (fnsR_ok fr tn b4 b5) p hok _ _ _ _ _ _ _ (RowC.kept hSh (Same.of_nil st.chg)) (RowC.kept hL (Same.of_nil st.chg)) (hT.kept (Same.of_nil st.chg)) (Nat.le_trans hn0 st.chg.size) ⟨st.res (i := 2) rfl, st.res (i := 1) rfl⟩ (fun b hb => by simp only [fnsR, List.mem_cons, List.not_mem_nil, or_false] at hb; rcases hb with rfl | rfl; exact st.lt (.tail _ (.tail _ (.head _))) (.head _); exact st.lt (.tail _ (.head _)) (.head _))) ?_)
    rintro _ w ⟨l, S, rfl, hQ, hN, cw⟩
    have hQ2 := hQ
    obtain ⟨gs, gcs, gl, gcl, gt, gct, Sa, Sb, Sc, rfl, -⟩ := hQ2
    have hN9 := hN.le st.chg.size
    replace st := St.pushR (r := .tree S (fun w => PgQ w (renP p fr tn) (pgL (renP p fr tn) gs gl gt gcs gcl gct) S)) st cw (holds_of hQ hQ.lt (fun a b h hk => h.kept hk)) hN.2
    refine vc_e (e_sts (vs := [_, _, _]) st 1 rfl rfl rfl rfl rfl sizeOf26 rfl rfl (by (right; assumption)) ?_)
    intro w st; dsimp only [setNth, wr] at st
    refine ya ?_
    refine vc_end (vq_then (vk2 6 7 (vc_ret ?_)))
    refine vq_ret2 st (.inl rfl) results18 (by exact .cell 1 rfl rfl isAgg26 sizeOf26) (.tmp rfl) ?_
    refine ⟨_, rfl, ?_⟩
    refine ⟨?_, st.chg⟩
    have hp : pgOk p = true := by assumption
    (refine .inr (.inr ⟨hp, ?_, gs, gl, gt, gcs, gcl, gct, S, rfl, (st.res (i := 0) rfl).1, hN9⟩); unfold renOk; simp_all; done)

end Go.Proofs.YtnmhlpnapgojjaaGreatDoor


/- Calls that return or panic; what a caller hands on; a function that defers; a deferred closure that recovers. -/
namespace Sx
open Go Go.RowKit

section
variable {P : Program} {n : Fr} {L : List Oper} {Q : Exit → Act → World → Prop} {kn : Kn} {w w0 : World} {M : List Nat} {hs : List Res} {rest : List Oper}
variable {d ty : Nat} {pos : String} {aft : Array Edge} {g : Option (Nat × Bool)}
variable {N : Act → World → Prop}

/-! ### functions that defer -/
end
end Sx


/- What the parser computes, in plain words: no program in sight. -/
namespace ParS
open Sx LexS

def tok0 : Tok := ⟨0, [], 0, 0⟩
def here (ts : List Tok) : Tok := match ts with | t :: _ => t | [] => tok0
/-! ### expressions -/
abbrev Pend := Nat × Nat × Ex
/-- Parse's answer: a program, an error, a place, a rule -/
def pg0 : Pg := ⟨[], [], []⟩
end ParS


/- What the parser computes, more: wanted words one after another; rests are rests of the tokens. -/
namespace ParS
open Sx LexS

end ParS


/- A parser in memory: its tokens, its place; what its functions hand back, and how they fail. -/
namespace Sx
open Go Go.RowKit LexS ParS

abbrev tkL (t : Tok) : List Value := [.int .u8 (t.kind : Int), str t.text, .int .i64 (t.word : Int), .int .i64 (t.at_ : Int)]
abbrev pgC (p : Pg) (os ol ot : Option Addr) (cs cl ct : Nat) : List Value := [.slice os p.shared.length cs, .slice ol p.locks.length cl, .slice ot p.threads.length ct]

/-- the operators' signs and levels, in the block of a variable -/
def SigAt (g : Nat) (w : World) : Prop := ∀ k, k < 19 → w.cell? ⟨g, k * 2, none⟩ = some (str (sgn k)) ∧ w.cell? ⟨g, k * 2 + 1, none⟩ = some (.int .i64 (lvl k))
/-- what stays as long as a parser goes: 'pb' its block; 'n0': older blocks stay; 'T' the parser's type, 'R' the refusal's; 'g' the signs' block -/
structure PCtx where
  pb : Nat
  n0 : Nat
  oa : Option Addr
  cap : Nat
  ts : List Tok
  e : Nat
  T : Nat
  R : Nat
  g : Nat
structure PCok (c : PCtx) (w : World) : Prop where
  row : RowC w (· < c.n0) 4 c.oa c.ts.length (fun j => tkL (c.ts.getD j tok0))
  n0 : c.n0 ≤ c.pb
  g : c.g < c.n0
  len : c.ts.length ≤ 1048576
  el : c.e ≤ 1048576
  sig : SigAt c.g w
  le : c.n0 ≤ w.heap.size
  wd : ∀ t ∈ c.ts, t.word ≤ 9223372036854775807
section
variable {w w' w0 : World} {M : List Nat} {hs : List Res}
end
end Sx


/- A parser's trees: operators that wait; new rows of one and of two. -/
namespace Sx
open Go Go.RowKit LexS ParS

section
variable {tE : Nat} {w w' : World}
theorem loc_ex {oa : Option Addr} {cap : Nat} {es : List Ex} {S : List Nat} : Loc S fun w => ExR tE w oa cap es S := loc_of fun a b h hk => h.kept hk
end
section
variable {w w' w0 : World} {M : List Nat} {hs : List Res}
end

structure ESt where
  W : List Pend
  x : Ex
  r : List Tok
  n : Nat
  ow : Option Addr
  cw : Nat
  xs : List Value
  SW : List Nat
  ox : Option Addr
  cx : Nat
  Sx : List Nat
end Sx


/- A parser's statements. -/
namespace Sx
open Go Go.RowKit LexS ParS
section
variable {tE tS : Nat} {w : World}
theorem loc_sm {oa : Option Addr} {cap : Nat} {es : List Sm} {S : List Nat} : Loc S fun w => SmR tE tS w oa cap es S := loc_of fun a b h hk => h.kept hk
end
end Sx
namespace Sx
open Go Go.RowKit LexS ParS
section
variable {w w' w0 : World} {M : List Nat} {hs : List Res}
end
end Sx


/- What is read of a tree that lies in rows. -/
namespace Sx
open Go Go.RowKit
variable {w : World} {S : Nat → Prop}
theorem pgS_rows {tE tS tD tT : Nat} {p : Pg} {os ol ot : Option Addr} {cs cl ct : Nat} {B : List Nat} (h : PgS tE tS tD tT w p (pgC p os ol ot cs cl ct) B) : DcRow w (fun _ => True) os p.shared ∧ DcRow w (fun _ => True) ol p.locks ∧ ThRow w (fun _ => True) ot p.threads := by
  obtain ⟨os', cs', ol', cl', ot', ct', e, h1, h2, h3⟩ := h.toV (T := fun _ => True) (fun _ _ => trivial)
  simp only [pgC, List.cons.injEq, Value.slice.injEq, and_true, true_and] at e
  obtain ⟨⟨rfl, -⟩, ⟨rfl, -⟩, rfl, -⟩ := e
  exact ⟨h1, h2, h3⟩
end Sx


/- A tree renamed: no program in sight. -/
namespace LexS
open Sx
section
variable {g : Wd → Wd} {h : Int → Int}
mutual
theorem nmsE_tr : ∀ e : Ex, nmsE (trE g h e) = (nmsE e).map g
  | .mk k op wd nm kids a => by
    simp only [trE, nmsE, nmsEs_tr kids, List.map_append]
    split <;> simp
termination_by structural e => e
theorem nmsEs_tr : ∀ l : List Ex, nmsEs (trEs g h l) = (nmsEs l).map g
  | [] => rfl
  | e :: r => by simp only [trEs, nmsEs, nmsE_tr e, nmsEs_tr r, List.map_append]
termination_by structural l => l
end
mutual
theorem nmsS_tr : ∀ s : Sm, nmsS (trS g h s) = (nmsS s).map g
  | .mk k nm other e body els a => by simp only [trS, nmsS, nmsEs_tr, nmsSs_tr body, nmsSs_tr els, List.map_append, List.map_cons, List.map_nil]
termination_by structural e => e
theorem nmsSs_tr : ∀ l : List Sm, nmsSs (trSs g h l) = (nmsSs l).map g
  | [] => rfl
  | s :: r => by simp only [trSs, nmsSs, nmsS_tr s, nmsSs_tr r, List.map_append]
termination_by structural l => l
end
theorem nmsP_tr (p : Pg) : nmsP (trP g h p) = (nmsP p).map g := by
  have hD : ∀ l : List Dc, (l.map (trD g h)).map (·.nm) = (l.map (·.nm)).map g := fun l => by simp [List.map_map, Function.comp_def, trD]
  have hT : ∀ t : Th, nmsT (trT g h t) = (nmsT t).map g := fun t => by simp only [nmsT, trT, hD, nmsSs_tr, List.map_append, List.map_cons, List.map_nil]
  simp only [nmsP, trP, ← List.map_append]
  rw [hD, List.map_append (f := g)]
  congr 1
  induction p.threads with
  | nil => rfl
  | cons t r ih => simp only [List.map_cons, List.flatMap_cons, ih, hT, List.map_append]
end
end LexS

