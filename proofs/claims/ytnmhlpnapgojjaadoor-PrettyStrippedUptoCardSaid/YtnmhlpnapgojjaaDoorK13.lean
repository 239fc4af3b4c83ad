/- A part of the proof: contracts of functions and plain laws; each theorem says its own conditions. -/
import Derived.Test.YtnmhlpnapgojjaaDoorK12
import Derived.Test.YtnmhlpnapgojjaaDoorK8
import Derived.Test.YtnmhlpnapgojjaaDoorK2
import Derived.Test.YtnmhlpnapgojjaaDoorK1
import Derived.Test.YtnmhlpnapgojjaaDoorK9
namespace Go.Proofs.YtnmhlpnapgojjaaDoor
open Go.RowKit Sx LexS _root_.Go.Proofs.Tryd
set_option linter.unusedVariables false
set_option linter.unusedSimpArgs false
theorem trEs_len {g : List UInt8 → List UInt8} {h : Int → Int} (l : List Ex) : (trEs g h l).length = l.length := by rw [trEs_map, List.length_map]
theorem trSs_len {g : List UInt8 → List UInt8} {h : Int → Int} (l : List Sm) : (trSs g h l).length = l.length := by rw [trSs_map, List.length_map]
/-- an expression, its name and place turned -/
def eNA (e : Env) (x : Ex) : Ex := (x.setNm (e.g x.nm)).setAt (e.h x.a)
theorem eNA_kids (e : Env) (x : Ex) : (eNA e x).kids = x.kids := by cases x; rfl
theorem eNA_end (e : Env) (x : Ex) : (eNA e x).setKids (trEs e.g e.h x.kids) = trE e.g e.h x := by cases x; rfl
theorem set_get {α : Type} {l : List α} {j : Nat} {x y : α} (h : l[j]? = some x) : (l.set j y)[j]? = some y := by
 rw [List.getElem?_set_self (List.getElem?_eq_some_iff.1 h).1]

set_option maxHeartbeats 2000000 in
theorem el_any (e : Env) (ok : e.Ok) : ∀ (n : Nat) (es : List Ex), szo es = n → OkEs es → ∀ (oa : Option Addr) (cap : Nat) (S : List Nat) (w : World), ExRQ w oa cap es S → S.Nodup → e.in3 w → (∀ b ∈ e.E, b < w.heap.size) → (∀ b ∈ S, b ∉ e.E) →
    Ret Tryd.prog 67 ([] ++ [.slice oa es.length cap] ++ [e.pn, e.pa, e.pe]) w fun v w' => v = .tuple #[] ∧ ExRQ w' oa cap (trEs e.g e.h es) S ∧ Chg S w w' := by
 intro n
 refine Nat.strongRecOn n fun n ih => ?_
 intro es hn hok oa cap S w hQ hSN hE hEl hd
 subst hn
 have hn := hok.1
 refine ret_of [_, _, _, _] func67 rfl ntmps67 rfl ?_
 have st := St.init w S
 clear st
 obtain ⟨w0, rfl⟩ : ∃ w0, w0 = w := ⟨_, rfl⟩
 have st := St.two (w := w0) (φ := fun w => ExRQ w oa cap es S) (ψ := e.in3) hQ hE hQ.lt hEl loc_ex (loc_of fun a b h hk => Env.in3.kept ok h hk) hd
 have hSM : ∀ k ∈ S, k ∈ S ∨ w0.heap.size ≤ k := fun k hk => .inl hk
 refine vc_seq (vc_region ?_)
 refine vc_y rfl rfl (y_mv rfl) ?_
 refine vc_y rfl rfl (y_lensl rfl underlying61) ?_
 refine vc_y rfl rfl (y_mv rfl) ?_
 refine vc_end (vq_then (vc_keep [(0, _), (1, _), (2, _), (3, _), (7, _), (8, _)] ⟨rfl, rfl, rfl, rfl, rfl, rfl, trivial⟩ (vc_block ?_)))
 refine vc_loop (w0 := w0) (M := S) (fun (j : Nat) => [(0, .slice oa es.length cap), (1, e.pn), (2, e.pa), (3, e.pe), (7, .int .i64 (es.length : Int)), (8, .int .i64 (j : Int))]) (fun j => [.tree S (fun w => ExRQ w oa cap (mixL (trE e.g e.h) es j) S), .tree e.E e.in3]) (fun j _ => j ≤ es.length) (fun j => es.length - j) 0 ⟨rfl, rfl, rfl, rfl, rfl, rfl, trivial⟩ (by simpa only [mixL_zero] using st) (by omega) ?_
 clear st
 rintro j w hj st
 refine vc_seq (vc_region ?_)
 refine vc_y rfl rfl (y_lss rfl rfl) ?_
 refine vc_end (vq_then (vc_keep [(0, _), (1, _), (2, _), (3, _), (7, _), (8, _), (9, _)] ⟨rfl, rfl, rfl, rfl, rfl, rfl, rfl, trivial⟩ (vc_seq ?_)))
 refine vc_ifs rfl ?_ ?_
 ·
  intro hc9
  try simp only [dn] at hc9
  obtain ⟨x, hx⟩ : ∃ x, es[j]? = some x := ⟨_, List.getElem?_eq_getElem (by omega)⟩
  have hkx := hok.2 j x hx
  have hz := mem_size hx
  have hz2 : szo x.kids < szo es := by have := szo_kids x; omega
  have hmx := mixL_get (f := trE e.g e.h) hx
  have hm1 : ((mixL (trE e.g e.h) es j).set j (x.setNm (e.g x.nm)))[j]? = some (x.setNm (e.g x.nm)) := set_get hmx
  have hm2 : ((mixL (trE e.g e.h) es j).set j (eNA e x))[j]? = some (eNA e x) := set_get hmx
  have hs12 : ((mixL (trE e.g e.h) es j).set j (x.setNm (e.g x.nm))).set j ((x.setNm (e.g x.nm)).setAt (e.h x.a)) = (mixL (trE e.g e.h) es j).set j (eNA e x) := List.set_set ..
  have hs23 : ((mixL (trE e.g e.h) es j).set j (eNA e x)).set j ((eNA e x).setKids (trEs e.g e.h x.kids)) = mixL (trE e.g e.h) es (j + 1) := by rw [List.set_set, eNA_end]; exact mixL_step hx
  have stK := st
  obtain ⟨b, o0, c0, S0, rfl, -⟩ := exR_focus (st.res (i := 0) rfl).1 hSN hmx
  have st := stK
  clear stK
  have hcell0 : ∀ w, ExRQ w (some ⟨b, 0, none⟩) cap (mixL (trE e.g e.h) es j) S → w.cell? ⟨b, j * 6 + 3, none⟩ = some (str x.nm) ∧ w.cell? ⟨b, j * 6 + 5, none⟩ = some (.int .i64 x.a) := fun w h => by
   obtain ⟨b', o', c', S', hb', -, hc, -⟩ := exR_focus h hSN hmx
   simp only [Option.some.injEq, Addr.mk.injEq, and_true] at hb'
   subst hb'
   exact ⟨hc 3 _ rfl, hc 5 _ rfl⟩
  refine vc_code_skip (vq_then (vc_keep [(0, _), (1, _), (2, _), (3, _), (7, _), (8, _)] ⟨rfl, rfl, rfl, rfl, rfl, rfl, trivial⟩ (vc_seq (vc_block (vc_seq (vc_region ?_))))))
  refine vc_y rfl rfl (y_mv rfl) ?_
  refine vc_y rfl rfl (y_as rfl) ?_
  refine vc_end (vq_then (vc_keep [(0, _), (1, _), (2, _), (3, _), (5, _), (7, _), (8, _)] ⟨rfl, rfl, rfl, rfl, rfl, rfl, rfl, trivial⟩ (vc_seq ?_)))
  refine vk_draw Tryd.mixed [(0, true), (1, true), (2, true), (3, true), (5, true), (6, true), (7, true), (8, true), (12, true), (13, true), (14, true), (15, true), (4, true), (9, true), (11, true), (16, true), (10, false), (17, false), (18, true), (19, true), (20, false), (21, true), (22, true), (23, false)] 20 (fun w => St _ _ [.tree S (fun w => ExRQ w (some ⟨b, 0, none⟩) cap (mixL (trE e.g e.h) es j) S), .tree e.E e.in3] w) (by exact st) (by kernel_rfl) (by repeat (first | exact okQ_body | refine okQ_then ?_ | refine okQ_block ?_)) rfl (by kernel_rfl) rfl ?_
  intro w cd; replace st := st.call0 cd; clear cd
  have hS : St _ _ [.tree S (fun w => ExRQ w (some ⟨b, 0, none⟩) cap (mixL (trE e.g e.h) es j) S), .tree e.E e.in3] w := (by exact st)
  iterate 6 refine vk_takeU rfl rfl rfl rfl (fun _ => hS) (fun w => y_mv rfl) ?_
  refine vk_takeU rfl rfl rfl rfl (fun _ => hS) (fun w => (by exact y_ia0 (k := j) rfl rfl underlying61 sizeOf63 rfl (by omega))) ?_
  refine vk_takeU rfl rfl rfl rfl (fun _ => hS) (fun w => (by exact y_fa (k := 3) rfl underlying63 rfl rfl sizeOf9 rfl)) ?_
  iterate 2 refine vk_takeU rfl rfl rfl rfl (fun _ => hS) (fun w => y_mv rfl) ?_
  refine vk_takeU rfl rfl rfl rfl (fun _ => hS) (fun w => (by exact y_ia0 (k := j) rfl rfl underlying61 sizeOf63 rfl (by omega))) ?_
  refine vk_takeU rfl rfl rfl rfl (fun _ => hS) (fun w => (by exact y_fa (k := 5) rfl underlying63 rfl rfl sizeOf3 rfl)) ?_
  refine vk_take rfl rfl rfl rfl hS (fun w st => (by exact y_ldc rfl isAgg72 (cell_nth (st.res (i := 1) rfl).1.1.1 rfl))) ?_
  refine vk_take rfl rfl rfl rfl hS (fun w st => (by exact y_ldc rfl isAgg9 (hcell0 _ (st.res (i := 0) rfl).1).1)) ?_
  refine vk_take rfl rfl rfl rfl hS (fun w st => (by exact y_ldc rfl isAgg73 (cell_nth (st.res (i := 1) rfl).1.1.2.1 rfl))) ?_
  refine vk_take rfl rfl rfl rfl hS (fun w st => (by exact y_ldc rfl isAgg3 (hcell0 _ (st.res (i := 0) rfl).1).2)) ?_
  refine vk_do rfl rfl (e_callv [_] rfl rfl rfl ok.calln rfl (ok.nm x.nm _ (st.res (i := 1) rfl).1.1.2.2) ?_)
  rintro _ _ ⟨rfl, rfl⟩
  refine vk_next (by exact st) ?_; intro hS
  refine vk_do rfl rfl (e_callv [_] rfl rfl rfl ok.calla rfl (ok.at_ x.a _ (st.res (i := 1) rfl).1.1.2.2) ?_)
  rintro _ _ ⟨rfl, rfl⟩
  refine vk_next (by exact st) ?_; intro hS
  refine vk_takeU rfl rfl rfl rfl (fun _ => hS) (fun w => (by exact y_ia0 (k := j) rfl rfl underlying61 sizeOf63 rfl (by omega))) ?_
  refine vk_takeU rfl rfl rfl rfl (fun _ => hS) (fun w => (by exact y_fa (k := 3) rfl underlying63 rfl rfl sizeOf9 rfl)) ?_
  obtain ⟨b1, o1, c1, S1, hb1, r1, k1, -, -, -, s1, -⟩ := exR_focus (st.res (i := 0) rfl).1 hSN hmx
  simp only [Option.some.injEq, Addr.mk.injEq, and_true] at hb1
  subst hb1
  refine vk_do rfl rfl (e_stT st 0 (ψ := fun w => ExRQ w (some ⟨b, 0, none⟩) cap ((mixL (trE e.g e.h) es j).set j (x.setNm (e.g x.nm))) S) rfl rfl rfl rfl sizeOf9 rfl r1.mem (hSM _ r1.mem) ⟨_, k1 3 _ rfl⟩ (r1.fz _) (s1 _) loc_ex ?_)
  intro w st; dsimp only [setNth] at st
  refine vk_late ?_
  refine vk_takeU rfl rfl rfl rfl (fun h => by cases h) (fun w => (by exact y_ia0 (k := j) rfl rfl underlying61 sizeOf63 rfl (by omega))) ?_
  refine vk_takeU rfl rfl rfl rfl (fun h => by cases h) (fun w => (by exact y_fa (k := 5) rfl underlying63 rfl rfl sizeOf3 rfl)) ?_
  obtain ⟨b2, o2, c2, S2, hb2, r2, k2, -, -, -, -, s2, -⟩ := exR_focus (st.res (i := 0) rfl).1 hSN hm1
  simp only [Option.some.injEq, Addr.mk.injEq, and_true] at hb2
  subst hb2
  refine vk_do rfl rfl (e_stT st 0 (ψ := fun w => ExRQ w (some ⟨b, 0, none⟩) cap ((mixL (trE e.g e.h) es j).set j (eNA e x)) S) rfl rfl rfl rfl sizeOf3 rfl r2.mem (hSM _ r2.mem) ⟨_, k2 5 _ rfl⟩ (r2.fz _) (hs12 ▸ s2 (e.h x.a)) loc_ex ?_)
  intro w st; dsimp only [setNth] at st
  refine vk_late ?_
  refine vk_end ?_
  refine vq_then (vc_keep [(0, _), (1, _), (2, _), (3, _), (5, _), (7, _), (8, _)] ⟨rfl, rfl, rfl, rfl, rfl, rfl, rfl, trivial⟩ ?_)
  refine vk_draw Tryd.mixed [(1, true), (2, true), (3, true), (4, true), (0, true), (5, false), (6, false)] 6 (fun w => St _ _ [.tree S (fun w => ExRQ w (some ⟨b, 0, none⟩) cap ((mixL (trE e.g e.h) es j).set j (eNA e x)) S), .tree e.E e.in3] w) (by exact st) (by kernel_rfl) (by repeat (first | exact okQ_body | refine okQ_then ?_ | refine okQ_block ?_)) rfl (by kernel_rfl) rfl ?_
  intro w cd; replace st := st.call0 cd; clear cd
  have hS : St _ _ [.tree S (fun w => ExRQ w (some ⟨b, 0, none⟩) cap ((mixL (trE e.g e.h) es j).set j (eNA e x)) S), .tree e.E e.in3] w := (by exact st)
  iterate 2 refine vk_takeU rfl rfl rfl rfl (fun _ => hS) (fun w => y_mv rfl) ?_
  refine vk_takeU rfl rfl rfl rfl (fun _ => hS) (fun w => (by exact y_ia0 (k := j) rfl rfl underlying61 sizeOf63 rfl (by omega))) ?_
  refine vk_takeU rfl rfl rfl rfl (fun _ => hS) (fun w => (by exact y_fa (k := 4) rfl underlying63 rfl rfl sizeOf61 rfl)) ?_
  refine vk_take rfl rfl rfl rfl hS (fun w st => (by exact y_ldc rfl isAgg77 (cell_nth (st.res (i := 1) rfl).1.2 rfl))) ?_
  obtain ⟨b3, o3, c3, S3, hb3, r3, k3, q3, n3, sub3, -, -, put3⟩ := exR_focus (st.res (i := 0) rfl).1 hSN hm2
  simp only [Option.some.injEq, Addr.mk.injEq, and_true] at hb3
  subst hb3
  rw [eNA_kids] at q3
  refine vk_do rfl rfl (e_run rfl rfl ((by exact y_ldc rfl isAgg61 (k3 4 (.slice o3 x.kids.length c3) (by rw [eNA_kids]; rfl)))) ?_)
  refine vk_next (by exact st) ?_; intro hS
  refine vk_do rfl rfl (e_callv [_] rfl rfl rfl call67 rfl (ih _ hz2 x.kids rfl hkx.kids o3 c3 S3 _ q3 n3 (st.res (i := 1) rfl).1 (st.res (i := 1) rfl).2.1 (fun k hk => hd k (sub3 k hk))) ?_)
  rintro _ w ⟨rfl, hq, hc⟩
  replace st := st.within (ψ := fun w => ExRQ w (some ⟨b, 0, none⟩) cap (mixL (trE e.g e.h) es (j + 1)) S) hc sub3 hSM (hs23 ▸ put3 w (trEs e.g e.h x.kids) (by rw [trEs_len, eNA_kids]) hq hc) loc_ex
  refine vk_late ?_
  refine vk_end ?_
  refine vq_block (vq_then (vc_keep [(0, _), (1, _), (2, _), (3, _), (7, _), (8, _)] ⟨rfl, rfl, rfl, rfl, rfl, rfl, trivial⟩ (vc_region ?_)))
  refine vc_y rfl rfl (y_add rfl rfl (by omega : _ = ((j + 1 : Nat) : Int)) (by omega) (by omega)) ?_
  refine vc_y rfl rfl (y_mv rfl) ?_
  refine vc_end ?_
  refine vq_again (j + 1)  ⟨rfl, rfl, rfl, rfl, rfl, rfl, trivial⟩ st ?_ ?_
  ·
   omega
  ·
   omega
 ·
  intro hc9
  try simp only [dn] at hc9
  refine vc_exit (vq_then_exit (vq_then_exit (vq_block_exit ?_)))
  refine vq_ret0 (.inr rfl) results67 ?_
  refine ⟨_, rfl, ?_⟩
  obtain rfl : j = es.length := by omega
  rw [mixL_all, ← trEs_map] at st
  exact ⟨rfl, (st.res (i := 0) rfl).1, st.chg⟩

end Go.Proofs.YtnmhlpnapgojjaaDoor


namespace Go.Proofs.YtnmhlpnapgojjaaDoor
open Go.RowKit Sx LexS _root_.Go.Proofs.Tryd
set_option linter.unusedVariables false
set_option linter.unusedSimpArgs false
def s1 (e : Env) (x : Sm) : Sm := x.setNm (e.g x.nm)
def s2 (e : Env) (x : Sm) : Sm := (s1 e x).setOther (e.g x.other)
def s3 (e : Env) (x : Sm) : Sm := (s2 e x).setAt (e.h x.a)
def s4 (e : Env) (x : Sm) : Sm := (s3 e x).setE (trEs e.g e.h x.e)
def s5 (e : Env) (x : Sm) : Sm := (s4 e x).setBody (trSs e.g e.h x.body)
theorem s3_e (e : Env) (x : Sm) : (s3 e x).e = x.e := by cases x; rfl
theorem s4_body (e : Env) (x : Sm) : (s4 e x).body = x.body := by cases x; rfl
theorem s5_els (e : Env) (x : Sm) : (s5 e x).els = x.els := by cases x; rfl
theorem s5_end (e : Env) (x : Sm) : (s5 e x).setEls (trSs e.g e.h x.els) = trS e.g e.h x := by cases x; rfl

set_option maxHeartbeats 4000000 in
theorem sl_any (e : Env) (ok : e.Ok) : ∀ (n : Nat) (es : List Sm), szo es = n → OkSs es → ∀ (oa : Option Addr) (cap : Nat) (S : List Nat) (w : World), SmRQ w oa cap es S → S.Nodup → e.in4 w → (∀ b ∈ e.E, b < w.heap.size) → (∀ b ∈ S, b ∉ e.E) →
    Ret Tryd.prog 68 ([] ++ [.slice oa es.length cap] ++ [e.pn, e.pa, e.pe, e.ps]) w fun v w' => v = .tuple #[] ∧ SmRQ w' oa cap (trSs e.g e.h es) S ∧ Chg S w w' := by
 intro n
 refine Nat.strongRecOn n fun n ih => ?_
 intro es hn hok oa cap S w hQ hSN hE hEl hd
 subst hn
 have hn := hok.1
 refine ret_of [_, _, _, _, _] func68 rfl ntmps68 rfl ?_
 have st := St.init w S
 clear st
 obtain ⟨w0, rfl⟩ : ∃ w0, w0 = w := ⟨_, rfl⟩
 have st := St.two (w := w0) (φ := fun w => SmRQ w oa cap es S) (ψ := e.in4) hQ hE hQ.lt hEl loc_sm (loc_of fun a b h hk => Env.in4.kept ok h hk) hd
 have hSM : ∀ k ∈ S, k ∈ S ∨ w0.heap.size ≤ k := fun k hk => .inl hk
 refine vc_seq (vc_region ?_)
 refine vc_y rfl rfl (y_mv rfl) ?_
 refine vc_y rfl rfl (y_lensl rfl underlying40) ?_
 refine vc_y rfl rfl (y_mv rfl) ?_
 refine vc_end (vq_then (vc_keep [(0, _), (1, _), (2, _), (3, _), (4, _), (9, _), (10, _)] ⟨rfl, rfl, rfl, rfl, rfl, rfl, rfl, trivial⟩ (vc_block ?_)))
 refine vc_loop (w0 := w0) (M := S) (fun (j : Nat) => [(0, .slice oa es.length cap), (1, e.pn), (2, e.pa), (3, e.pe), (4, e.ps), (9, .int .i64 (es.length : Int)), (10, .int .i64 (j : Int))]) (fun j => [.tree S (fun w => SmRQ w oa cap (mixL (trS e.g e.h) es j) S), .tree e.E e.in4]) (fun j _ => j ≤ es.length) (fun j => es.length - j) 0 ⟨rfl, rfl, rfl, rfl, rfl, rfl, rfl, trivial⟩ (by simpa only [mixL_zero] using st) (by omega) ?_
 clear st
 rintro j w hj st
 refine vc_seq (vc_region ?_)
 refine vc_y rfl rfl (y_lss rfl rfl) ?_
 refine vc_end (vq_then (vc_keep [(0, _), (1, _), (2, _), (3, _), (4, _), (9, _), (10, _), (11, _)] ⟨rfl, rfl, rfl, rfl, rfl, rfl, rfl, rfl, trivial⟩ (vc_seq ?_)))
 refine vc_ifs rfl ?_ ?_
 ·
  intro hc11
  try simp only [dn] at hc11
  obtain ⟨x, hx⟩ : ∃ x, es[j]? = some x := ⟨_, List.getElem?_eq_getElem (by omega)⟩
  have hkx := hok.2 j x hx
  have hz := mem_size hx
  have hzB : szo x.body < szo es := by have : szo x.body < szo x := by cases x; exact sm_size.1
                                       omega
  have hzL : szo x.els < szo es := by have : szo x.els < szo x := by cases x; exact sm_size.2
                                      omega
  have hm0 := mixL_get (f := trS e.g e.h) hx
  have hm1 : ((mixL (trS e.g e.h) es j).set j (s1 e x))[j]? = some (s1 e x) := set_get hm0
  have hm2 : ((mixL (trS e.g e.h) es j).set j (s2 e x))[j]? = some (s2 e x) := set_get hm0
  have hm3 : ((mixL (trS e.g e.h) es j).set j (s3 e x))[j]? = some (s3 e x) := set_get hm0
  have hm4 : ((mixL (trS e.g e.h) es j).set j (s4 e x))[j]? = some (s4 e x) := set_get hm0
  have hm5 : ((mixL (trS e.g e.h) es j).set j (s5 e x))[j]? = some (s5 e x) := set_get hm0
  have h12 : ((mixL (trS e.g e.h) es j).set j (s1 e x)).set j ((s1 e x).setOther (e.g x.other)) = ((mixL (trS e.g e.h) es j).set j (s2 e x)) := List.set_set ..
  have h23 : ((mixL (trS e.g e.h) es j).set j (s2 e x)).set j ((s2 e x).setAt (e.h x.a)) = ((mixL (trS e.g e.h) es j).set j (s3 e x)) := List.set_set ..
  have h34 : ((mixL (trS e.g e.h) es j).set j (s3 e x)).set j ((s3 e x).setE (trEs e.g e.h x.e)) = ((mixL (trS e.g e.h) es j).set j (s4 e x)) := List.set_set ..
  have h45 : ((mixL (trS e.g e.h) es j).set j (s4 e x)).set j ((s4 e x).setBody (trSs e.g e.h x.body)) = ((mixL (trS e.g e.h) es j).set j (s5 e x)) := List.set_set ..
  have h56 : ((mixL (trS e.g e.h) es j).set j (s5 e x)).set j ((s5 e x).setEls (trSs e.g e.h x.els)) = mixL (trS e.g e.h) es (j + 1) := by rw [List.set_set, s5_end]; exact mixL_step hx
  have stK := st
  obtain ⟨b, _, _, _, _, _, _, _, _, _, rfl, -⟩ := smR_focus (st.res (i := 0) rfl).1 hSN hm0
  have st := stK
  clear stK
  have hcell0 : ∀ w, SmRQ w (some ⟨b, 0, none⟩) cap (mixL (trS e.g e.h) es j) S → w.cell? ⟨b, j * 7 + 1, none⟩ = some (str x.nm) ∧ w.cell? ⟨b, j * 7 + 2, none⟩ = some (str x.other) ∧ w.cell? ⟨b, j * 7 + 6, none⟩ = some (.int .i64 x.a) := fun w h => by
   obtain ⟨b', _, _, _, _, _, _, _, _, _, hb', -, hc, -⟩ := smR_focus h hSN hm0
   simp only [Option.some.injEq, Addr.mk.injEq, and_true] at hb'
   subst hb'
   exact ⟨hc 1 _ rfl, hc 2 _ rfl, hc 6 _ rfl⟩
  refine vc_code_skip (vq_then (vc_keep [(0, _), (1, _), (2, _), (3, _), (4, _), (9, _), (10, _)] ⟨rfl, rfl, rfl, rfl, rfl, rfl, rfl, trivial⟩ (vc_seq (vc_block (vc_seq (vc_region ?_))))))
  refine vc_y rfl rfl (y_mv rfl) ?_
  refine vc_y rfl rfl (y_as rfl) ?_
  refine vc_end (vq_then (vc_keep [(0, _), (1, _), (2, _), (3, _), (4, _), (6, _), (9, _), (10, _)] ⟨rfl, rfl, rfl, rfl, rfl, rfl, rfl, rfl, trivial⟩ (vc_seq (vc_region ?_))))
  iterate 2 refine vc_y rfl rfl (y_mv rfl) ?_
  refine vc_y rfl rfl ((by exact y_ia0 (k := j) rfl rfl underlying40 sizeOf70 rfl (by omega))) ?_
  refine vc_y rfl rfl (y_as rfl) ?_
  refine vc_end (vq_then (vc_keep [(0, _), (1, _), (2, _), (3, _), (4, _), (7, _), (9, _), (10, _)] ⟨rfl, rfl, rfl, rfl, rfl, rfl, rfl, rfl, trivial⟩ (vc_seq ?_)))
  refine vk_draw Tryd.mixed [(0, true), (1, true), (2, true), (4, true), (5, true), (6, true), (10, true), (11, true), (12, true), (16, true), (17, true), (18, true), (3, true), (7, true), (9, true), (13, true), (15, true), (19, true), (8, false), (14, false), (20, false), (21, true), (22, true), (23, false), (24, true), (25, true), (26, false), (27, true), (28, true), (29, false)] 23 (fun w => St _ _ [.tree S (fun w => SmRQ w (some ⟨b, 0, none⟩) cap (mixL (trS e.g e.h) es j) S), .tree e.E e.in4] w) (by exact st) (by kernel_rfl) (by repeat (first | exact okQ_body | refine okQ_then ?_ | refine okQ_block ?_)) rfl (by kernel_rfl) rfl ?_
  intro w cd; replace st := st.call0 cd; clear cd
  have hS : St _ _ [.tree S (fun w => SmRQ w (some ⟨b, 0, none⟩) cap (mixL (trS e.g e.h) es j) S), .tree e.E e.in4] w := (by exact st)
  iterate 4 refine vk_takeU rfl rfl rfl rfl (fun _ => hS) (fun w => y_mv rfl) ?_
  refine vk_takeU rfl rfl rfl rfl (fun _ => hS) (fun w => y_nck rfl) ?_
  refine vk_takeU rfl rfl rfl rfl (fun _ => hS) (fun w => (by exact y_fa (k := 1) rfl underlying70 rfl rfl sizeOf9 rfl)) ?_
  refine vk_takeU rfl rfl rfl rfl (fun _ => hS) (fun w => y_mv rfl) ?_
  refine vk_takeU rfl rfl rfl rfl (fun _ => hS) (fun w => y_nck rfl) ?_
  refine vk_takeU rfl rfl rfl rfl (fun _ => hS) (fun w => (by exact y_fa (k := 2) rfl underlying70 rfl rfl sizeOf9 rfl)) ?_
  refine vk_takeU rfl rfl rfl rfl (fun _ => hS) (fun w => y_mv rfl) ?_
  refine vk_takeU rfl rfl rfl rfl (fun _ => hS) (fun w => y_nck rfl) ?_
  refine vk_takeU rfl rfl rfl rfl (fun _ => hS) (fun w => (by exact y_fa (k := 6) rfl underlying70 rfl rfl sizeOf3 rfl)) ?_
  refine vk_take rfl rfl rfl rfl hS (fun w st => (by exact y_ldc rfl isAgg72 (cell_nth (st.res (i := 1) rfl).1.1.1.1 rfl))) ?_
  refine vk_take rfl rfl rfl rfl hS (fun w st => (by exact y_ldc rfl isAgg9 (hcell0 _ (st.res (i := 0) rfl).1).1)) ?_
  refine vk_take rfl rfl rfl rfl hS (fun w st => (by exact y_ldc rfl isAgg72 (cell_nth (st.res (i := 1) rfl).1.1.1.1 rfl))) ?_
  refine vk_take rfl rfl rfl rfl hS (fun w st => (by exact y_ldc rfl isAgg9 (hcell0 _ (st.res (i := 0) rfl).1).2.1)) ?_
  refine vk_take rfl rfl rfl rfl hS (fun w st => (by exact y_ldc rfl isAgg73 (cell_nth (st.res (i := 1) rfl).1.1.1.2.1 rfl))) ?_
  refine vk_take rfl rfl rfl rfl hS (fun w st => (by exact y_ldc rfl isAgg3 (hcell0 _ (st.res (i := 0) rfl).1).2.2)) ?_
  refine vk_do rfl rfl (e_callv [_] rfl rfl rfl ok.calln rfl (ok.nm x.nm _ (st.res (i := 1) rfl).1.1.1.2.2) ?_)
  rintro _ _ ⟨rfl, rfl⟩
  refine vk_next (by exact st) ?_; intro hS
  refine vk_do rfl rfl (e_callv [_] rfl rfl rfl ok.calln rfl (ok.nm x.other _ (st.res (i := 1) rfl).1.1.1.2.2) ?_)
  rintro _ _ ⟨rfl, rfl⟩
  refine vk_next (by exact st) ?_; intro hS
  refine vk_do rfl rfl (e_callv [_] rfl rfl rfl ok.calla rfl (ok.at_ x.a _ (st.res (i := 1) rfl).1.1.1.2.2) ?_)
  rintro _ _ ⟨rfl, rfl⟩
  refine vk_next (by exact st) ?_; intro hS
  refine vk_takeU rfl rfl rfl rfl (fun _ => hS) (fun w => y_nck rfl) ?_
  refine vk_takeU rfl rfl rfl rfl (fun _ => hS) (fun w => (by exact y_fa (k := 1) rfl underlying70 rfl rfl sizeOf9 rfl)) ?_
  obtain ⟨b1, oe1, ce1, ob1, cb1, ol1, cl1, Se1, Sb1, Sl1, hb1, r1, k1, qe1, qb1, ql1, ne1, nb1, nl1, ue1, ub1, ul1, z1, z2, z3, pe1, pb1, pl1⟩ := smR_focus (st.res (i := 0) rfl).1 hSN hm0
  simp only [Option.some.injEq, Addr.mk.injEq, and_true] at hb1
  subst hb1
  refine vk_do rfl rfl (e_stT st 0 (ψ := fun w => SmRQ w (some ⟨b, 0, none⟩) cap ((mixL (trS e.g e.h) es j).set j (s1 e x)) S) rfl rfl rfl rfl sizeOf9 rfl r1.mem (hSM _ r1.mem) ⟨_, k1 1 _ rfl⟩ (r1.fz _) (z1 _) loc_sm ?_)
  intro w st; dsimp only [setNth] at st
  refine vk_late ?_
  refine vk_takeU rfl rfl rfl rfl (fun h => by cases h) (fun w => y_nck rfl) ?_
  refine vk_takeU rfl rfl rfl rfl (fun h => by cases h) (fun w => (by exact y_fa (k := 2) rfl underlying70 rfl rfl sizeOf9 rfl)) ?_
  clear z1 z2 z3
  obtain ⟨b2, oe2, ce2, ob2, cb2, ol2, cl2, Se2, Sb2, Sl2, hb2, r2, k2, qe2, qb2, ql2, ne2, nb2, nl2, ue2, ub2, ul2, z1, z2, z3, pe2, pb2, pl2⟩ := smR_focus (st.res (i := 0) rfl).1 hSN hm1
  simp only [Option.some.injEq, Addr.mk.injEq, and_true] at hb2
  subst hb2
  refine vk_do rfl rfl (e_stT st 0 (ψ := fun w => SmRQ w (some ⟨b, 0, none⟩) cap ((mixL (trS e.g e.h) es j).set j (s2 e x)) S) rfl rfl rfl rfl sizeOf9 rfl r2.mem (hSM _ r2.mem) ⟨_, k2 2 _ rfl⟩ (r2.fz _) (h12 ▸ z2 _) loc_sm ?_)
  intro w st; dsimp only [setNth] at st
  refine vk_late ?_
  refine vk_takeU rfl rfl rfl rfl (fun h => by cases h) (fun w => y_nck rfl) ?_
  refine vk_takeU rfl rfl rfl rfl (fun h => by cases h) (fun w => (by exact y_fa (k := 6) rfl underlying70 rfl rfl sizeOf3 rfl)) ?_
  clear z1 z2 z3
  obtain ⟨b3, oe3, ce3, ob3, cb3, ol3, cl3, Se3, Sb3, Sl3, hb3, r3, k3, qe3, qb3, ql3, ne3, nb3, nl3, ue3, ub3, ul3, z1, z2, z3, pe3, pb3, pl3⟩ := smR_focus (st.res (i := 0) rfl).1 hSN hm2
  simp only [Option.some.injEq, Addr.mk.injEq, and_true] at hb3
  subst hb3
  refine vk_do rfl rfl (e_stT st 0 (ψ := fun w => SmRQ w (some ⟨b, 0, none⟩) cap ((mixL (trS e.g e.h) es j).set j (s3 e x)) S) rfl rfl rfl rfl sizeOf3 rfl r3.mem (hSM _ r3.mem) ⟨_, k3 6 _ rfl⟩ (r3.fz _) (h23 ▸ z3 _) loc_sm ?_)
  intro w st; dsimp only [setNth] at st
  refine vk_late ?_
  refine vk_end ?_
  refine vq_then (vc_keep [(0, _), (1, _), (2, _), (3, _), (4, _), (7, _), (9, _), (10, _)] ⟨rfl, rfl, rfl, rfl, rfl, rfl, rfl, rfl, trivial⟩ (vc_seq ?_))
  refine vk_draw Tryd.mixed [(1, true), (2, true), (3, true), (0, true), (4, false), (5, false)] 5 (fun w => St _ _ [.tree S (fun w => SmRQ w (some ⟨b, 0, none⟩) cap ((mixL (trS e.g e.h) es j).set j (s3 e x)) S), .tree e.E e.in4] w) (by exact st) (by kernel_rfl) (by repeat (first | exact okQ_body | refine okQ_then ?_ | refine okQ_block ?_)) rfl (by kernel_rfl) rfl ?_
  intro w cd; replace st := st.call0 cd; clear cd
  have hS : St _ _ [.tree S (fun w => SmRQ w (some ⟨b, 0, none⟩) cap ((mixL (trS e.g e.h) es j).set j (s3 e x)) S), .tree e.E e.in4] w := (by exact st)
  refine vk_takeU rfl rfl rfl rfl (fun _ => hS) (fun w => y_mv rfl) ?_
  refine vk_takeU rfl rfl rfl rfl (fun _ => hS) (fun w => y_nck rfl) ?_
  refine vk_takeU rfl rfl rfl rfl (fun _ => hS) (fun w => (by exact y_fa (k := 3) rfl underlying70 rfl rfl sizeOf61 rfl)) ?_
  refine vk_take rfl rfl rfl rfl hS (fun w st => (by exact y_ldc rfl isAgg77 (cell_nth (st.res (i := 1) rfl).1.1.2 rfl))) ?_
  obtain ⟨b4, oe4, ce4, ob4, cb4, ol4, cl4, Se4, Sb4, Sl4, hb4, r4, k4, qe4, qb4, ql4, ne4, nb4, nl4, ue4, ub4, ul4, z1, z2, z3, pe4, pb4, pl4⟩ := smR_focus (st.res (i := 0) rfl).1 hSN hm3
  simp only [Option.some.injEq, Addr.mk.injEq, and_true] at hb4
  subst hb4
  rw [s3_e] at qe4
  refine vk_do rfl rfl (e_run rfl rfl ((by exact y_ldc rfl isAgg61 (k4 3 (.slice oe4 x.e.length ce4) (by rw [s3_e]; rfl)))) ?_)
  refine vk_next (by exact st) ?_; intro hS
  refine vk_do rfl rfl (e_callv [_] rfl rfl rfl call67 rfl (el_any e ok _ x.e rfl hkx.e oe4 ce4 Se4 _ qe4 ne4 (st.res (i := 1) rfl).1.1 (st.res (i := 1) rfl).2.1 (fun k hk => hd k (ue4 k hk))) ?_)
  rintro _ w ⟨rfl, hq, hc⟩
  replace st := st.within (ψ := fun w => SmRQ w (some ⟨b, 0, none⟩) cap ((mixL (trS e.g e.h) es j).set j (s4 e x)) S) hc ue4 hSM (h34 ▸ pe4 w (trEs e.g e.h x.e) (by rw [trEs_len, s3_e]) hq hc) loc_sm
  refine vk_late ?_
  refine vk_end ?_
  refine vq_then (vc_keep [(0, _), (1, _), (2, _), (3, _), (4, _), (7, _), (9, _), (10, _)] ⟨rfl, rfl, rfl, rfl, rfl, rfl, rfl, rfl, trivial⟩ (vc_seq ?_))
  refine vk_draw Tryd.mixed [(1, true), (2, true), (3, true), (0, true), (4, false), (5, false)] 5 (fun w => St _ _ [.tree S (fun w => SmRQ w (some ⟨b, 0, none⟩) cap ((mixL (trS e.g e.h) es j).set j (s4 e x)) S), .tree e.E e.in4] w) (by exact st) (by kernel_rfl) (by repeat (first | exact okQ_body | refine okQ_then ?_ | refine okQ_block ?_)) rfl (by kernel_rfl) rfl ?_
  intro w cd; replace st := st.call0 cd; clear cd
  have hS : St _ _ [.tree S (fun w => SmRQ w (some ⟨b, 0, none⟩) cap ((mixL (trS e.g e.h) es j).set j (s4 e x)) S), .tree e.E e.in4] w := (by exact st)
  refine vk_takeU rfl rfl rfl rfl (fun _ => hS) (fun w => y_mv rfl) ?_
  refine vk_takeU rfl rfl rfl rfl (fun _ => hS) (fun w => y_nck rfl) ?_
  refine vk_takeU rfl rfl rfl rfl (fun _ => hS) (fun w => (by exact y_fa (k := 4) rfl underlying70 rfl rfl sizeOf40 rfl)) ?_
  refine vk_take rfl rfl rfl rfl hS (fun w st => (by exact y_ldc rfl isAgg78 (cell_nth (st.res (i := 1) rfl).1.2 rfl))) ?_
  obtain ⟨b5, oe5, ce5, ob5, cb5, ol5, cl5, Se5, Sb5, Sl5, hb5, r5, k5, qe5, qb5, ql5, ne5, nb5, nl5, ue5, ub5, ul5, z1, z2, z3, pe5, pb5, pl5⟩ := smR_focus (st.res (i := 0) rfl).1 hSN hm4
  simp only [Option.some.injEq, Addr.mk.injEq, and_true] at hb5
  subst hb5
  rw [s4_body] at qb5
  refine vk_do rfl rfl (e_run rfl rfl ((by exact y_ldc rfl isAgg40 (k5 4 (.slice ob5 x.body.length cb5) (by rw [s4_body]; rfl)))) ?_)
  refine vk_next (by exact st) ?_; intro hS
  refine vk_do rfl rfl (e_callv [_] rfl rfl rfl call68 rfl (ih _ hzB x.body rfl hkx.body ob5 cb5 Sb5 _ qb5 nb5 (st.res (i := 1) rfl).1 (st.res (i := 1) rfl).2.1 (fun k hk => hd k (ub5 k hk))) ?_)
  rintro _ w ⟨rfl, hq, hc⟩
  replace st := st.within (ψ := fun w => SmRQ w (some ⟨b, 0, none⟩) cap ((mixL (trS e.g e.h) es j).set j (s5 e x)) S) hc ub5 hSM (h45 ▸ pb5 w (trSs e.g e.h x.body) (by rw [trSs_len, s4_body]) hq hc) loc_sm
  refine vk_late ?_
  refine vk_end ?_
  refine vq_then (vc_keep [(0, _), (1, _), (2, _), (3, _), (4, _), (7, _), (9, _), (10, _)] ⟨rfl, rfl, rfl, rfl, rfl, rfl, rfl, rfl, trivial⟩ ?_)
  refine vk_draw Tryd.mixed [(1, true), (2, true), (3, true), (0, true), (4, false), (5, false)] 5 (fun w => St _ _ [.tree S (fun w => SmRQ w (some ⟨b, 0, none⟩) cap ((mixL (trS e.g e.h) es j).set j (s5 e x)) S), .tree e.E e.in4] w) (by exact st) (by kernel_rfl) (by repeat (first | exact okQ_body | refine okQ_then ?_ | refine okQ_block ?_)) rfl (by kernel_rfl) rfl ?_
  intro w cd; replace st := st.call0 cd; clear cd
  have hS : St _ _ [.tree S (fun w => SmRQ w (some ⟨b, 0, none⟩) cap ((mixL (trS e.g e.h) es j).set j (s5 e x)) S), .tree e.E e.in4] w := (by exact st)
  refine vk_takeU rfl rfl rfl rfl (fun _ => hS) (fun w => y_mv rfl) ?_
  refine vk_takeU rfl rfl rfl rfl (fun _ => hS) (fun w => y_nck rfl) ?_
  refine vk_takeU rfl rfl rfl rfl (fun _ => hS) (fun w => (by exact y_fa (k := 5) rfl underlying70 rfl rfl sizeOf40 rfl)) ?_
  refine vk_take rfl rfl rfl rfl hS (fun w st => (by exact y_ldc rfl isAgg78 (cell_nth (st.res (i := 1) rfl).1.2 rfl))) ?_
  obtain ⟨b6, oe6, ce6, ob6, cb6, ol6, cl6, Se6, Sb6, Sl6, hb6, r6, k6, qe6, qb6, ql6, ne6, nb6, nl6, ue6, ub6, ul6, z1, z2, z3, pe6, pb6, pl6⟩ := smR_focus (st.res (i := 0) rfl).1 hSN hm5
  simp only [Option.some.injEq, Addr.mk.injEq, and_true] at hb6
  subst hb6
  rw [s5_els] at ql6
  refine vk_do rfl rfl (e_run rfl rfl ((by exact y_ldc rfl isAgg40 (k6 5 (.slice ol6 x.els.length cl6) (by rw [s5_els]; rfl)))) ?_)
  refine vk_next (by exact st) ?_; intro hS
  refine vk_do rfl rfl (e_callv [_] rfl rfl rfl call68 rfl (ih _ hzL x.els rfl hkx.els ol6 cl6 Sl6 _ ql6 nl6 (st.res (i := 1) rfl).1 (st.res (i := 1) rfl).2.1 (fun k hk => hd k (ul6 k hk))) ?_)
  rintro _ w ⟨rfl, hq, hc⟩
  replace st := st.within (ψ := fun w => SmRQ w (some ⟨b, 0, none⟩) cap (mixL (trS e.g e.h) es (j + 1)) S) hc ul6 hSM (h56 ▸ pl6 w (trSs e.g e.h x.els) (by rw [trSs_len, s5_els]) hq hc) loc_sm
  refine vk_late ?_
  refine vk_end ?_
  refine vq_block (vq_then (vc_keep [(0, _), (1, _), (2, _), (3, _), (4, _), (9, _), (10, _)] ⟨rfl, rfl, rfl, rfl, rfl, rfl, rfl, trivial⟩ (vc_region ?_)))
  refine vc_y rfl rfl (y_add rfl rfl (by omega : _ = ((j + 1 : Nat) : Int)) (by omega) (by omega)) ?_
  refine vc_y rfl rfl (y_mv rfl) ?_
  refine vc_end ?_
  refine vq_again (j + 1)  ⟨rfl, rfl, rfl, rfl, rfl, rfl, rfl, trivial⟩ st ?_ ?_
  ·
   omega
  ·
   omega
 ·
  intro hc11
  try simp only [dn] at hc11
  refine vc_exit (vq_then_exit (vq_then_exit (vq_block_exit ?_)))
  refine vq_ret0 (.inr rfl) results68 ?_
  refine ⟨_, rfl, ?_⟩
  obtain rfl : j = es.length := by omega
  rw [mixL_all, ← trSs_map] at st
  exact ⟨rfl, (st.res (i := 0) rfl).1, st.chg⟩

end Go.Proofs.YtnmhlpnapgojjaaDoor


namespace Go.Proofs.YtnmhlpnapgojjaaDoor
open Go.RowKit Sx LexS _root_.Go.Proofs.Tryd
set_option linter.unusedVariables false
set_option linter.unusedSimpArgs false
section
variable {n0 : Nat}

set_option maxHeartbeats 2000000 in
theorem pcopyP_any (p : Pg) (hok : OkP p) (os ol ot : Option Addr) (cs cl ct : Nat) (w : World) (hSh : DcRow w (· < n0) os p.shared) (hL : DcRow w (· < n0) ol p.locks) (hT : ThRow w (· < n0) ot p.threads) (hn0 : n0 ≤ w.heap.size) :
    Ret Tryd.prog 65 [.agg (pgL p os ol ot cs cl ct).toArray] w fun v w' => ∃ l S, v = .agg l.toArray ∧ PgQ w' p l S ∧ Nw w.heap.size S ∧ Chg [] w w' := by
 refine ret_of [_] func65 rfl ntmps65 rfl ?_
 have st := St.init w []
 obtain ⟨w0, rfl⟩ : ∃ w0, w0 = w := ⟨_, rfl⟩
 have hn1 := hok.1.1
 have hn2 := hok.2.1.1
 have hn3 := hok.2.2.1
 refine vc_seq (vc_region ?_)
 refine vc_e (e_bx (l := [_, _, _]) st rfl rfl rfl rfl ?_)
 intro b1 w hb1 st
 refine vc_e (e_al (l := [_, _, _]) st rfl rfl zeroValue25 rfl ?_)
 intro b2 w hb2 st
 refine vc_end (vq_then (vc_keep [(1, _), (2, _)] ⟨rfl, rfl, trivial⟩ ?_))
 refine vc_cut (w0 := w0) (M := []) (fun (z : Option Addr × Nat × Option Addr × Nat × Nat) => [(1, .pointer (some ⟨b1, 0, none⟩)), (2, .pointer (some ⟨b2, 0, none⟩)), (3, .pointer (some ⟨z.2.2.2.2, 0, none⟩))]) (fun z => [.blk z.2.2.2.2 (.cells [.slice z.1 p.shared.length z.2.1, .slice z.2.2.1 p.locks.length z.2.2.2.1, .slice none 0 0].toArray 25 (0, 0)), .own (.slice z.1 p.shared.length z.2.1) 67 3 p.shared.length (p.shared.flatMap dcL), .own (.slice z.2.2.1 p.locks.length z.2.2.2.1) 67 3 p.locks.length (p.locks.flatMap dcL), .blk b2 (.cells [.slice none 0 0, .slice none 0 0, .slice none 0 0].toArray 25 (0, 0)), .blk b1 (.cells (pgL p os ol ot cs cl ct).toArray 25 (0, 0))]) (fun z _ => w0.heap.size ≤ z.2.2.2.2) ?_ ?_
 ·
  refine vd_draw Tryd.mixed (.take 0 (.take 1 (.take 3 (.take 4 (.two 2 7 (.two 5 7 (.take 6 (.one 7 (.one 8 .done))) (.one 5 (.take 6 (.one 8 .done)))) (.one 2 (.one 5 (.take 6 (.one 8 .done))))))))) (fun w => St _ _ [.blk b2 (.cells [.slice none 0 0, .slice none 0 0, .slice none 0 0].toArray 25 (0, 0)), .blk b1 (.cells (pgL p os ol ot cs cl ct).toArray 25 (0, 0))] w) (by exact st) (by kernel_rfl) (by repeat (first | exact okQ_body | refine okQ_then ?_ | refine okQ_block ?_)) rfl (by kernel_rfl) ?_
  intro w cd; replace st := st.call0 cd; clear cd
  have hS : St _ _ [.blk b2 (.cells [.slice none 0 0, .slice none 0 0, .slice none 0 0].toArray 25 (0, 0)), .blk b1 (.cells (pgL p os ol ot cs cl ct).toArray 25 (0, 0))] w := (by exact st)
  refine vd_take rfl rfl rfl hS (fun w st => y_fa0 rfl underlying25 rfl rfl sizeOf22 rfl) ?_
  refine vd_take rfl rfl rfl hS (fun w st => (by exact y_ld st 1 rfl isAgg22 rfl rfl)) ?_
  refine vd_take rfl rfl rfl hS (fun w st => (by exact y_faz (k := 1) rfl underlying25 rfl rfl sizeOf22 rfl)) ?_
  refine vd_take rfl rfl rfl hS (fun w st => (by exact y_ld st 1 rfl isAgg22 rfl rfl)) ?_
  refine vd_two rfl rfl ?_ ?_
  ·
   replace st := st.ownNil 67 3
   refine (e_appr (bytes := 32) (len' := p.shared.length) (ys := p.shared.flatMap dcL) st 0 rfl rfl rfl rfl rfl (DcRow.rd (S := (· < n0)) (RowC.kept hSh (Same.of_nil st.chg))) underlying22 Tryd.info67 rfl rfl rfl rfl rfl (dcs_len p.shared) (dcs_one p.shared) (by unfold maxLen; omega) (by omega) (by omega) (by simp) ?_)
   intro s1o s1c w st; dsimp only [setNth] at st
   refine vd_next (by exact st.drop (by repeat (first | exact sl0 | apply sl1 | apply sl2))) ?_; intro hS
   refine vd_two rfl rfl ?_ ?_
   ·
    replace st := st.ownNil 67 3
    refine (e_appr (bytes := 32) (len' := p.locks.length) (ys := p.locks.flatMap dcL) st 0 rfl rfl rfl rfl rfl (DcRow.rd (S := (· < n0)) (RowC.kept hL (Same.of_nil st.chg))) underlying22 Tryd.info67 rfl rfl rfl rfl rfl (dcs_len p.locks) (dcs_one p.locks) (by unfold maxLen; omega) (by omega) (by omega) (by simp) ?_)
    intro s2o s2c w st; dsimp only [setNth] at st
    refine vd_next (by exact st.drop (by repeat (first | exact sl0 | apply sl1 | apply sl2))) ?_; intro hS
    refine vd_take rfl rfl rfl hS (fun w st => y_bld (.agg #[_, _, _]) [(0, _), (1, _)] rfl (fun w => by simp [Instr.build, go_sem] <;> repeat' constructor)) ?_
    refine vd_do rfl (e_al (l := [_, _, _]) st rfl rfl zeroValue25 rfl ?_)
    intro b3 w hb3 st
    refine vd_next (by exact st.drop (by repeat (first | exact sl0 | apply sl1 | apply sl2))) ?_; intro hS
    refine vd_do rfl (e_sts (vs := [_, _, _]) st 0 rfl rfl rfl rfl rfl sizeOf25 rfl rfl (by first | (right; assumption) | (left; simp)) ?_)
    intro w st; dsimp only [setNth, wr] at st
    refine vd_next (by exact st.drop (by repeat (first | exact sl0 | apply sl1 | apply sl2))) ?_; intro hS
    refine vd_end ?_
    refine vq_meet (s1o, s1c, s2o, s2c, b3) ⟨rfl, rfl, rfl, trivial⟩ (by exact st.pick [0, 2, 1, 3, 4] rfl (by decide)) ?_
    ·
     assumption
   ·
    refine (e_al (l := [_, _, _]) st rfl rfl zeroValue25 rfl ?_)
    intro b3 w hb3 st
    refine vd_next (by exact st.drop (by repeat (first | exact sl0 | apply sl1 | apply sl2))) ?_; intro hS
    replace st := st.ownNil 67 3
    replace st := st.ownNil 67 3
    refine vd_do rfl (e_appr (bytes := 32) (len' := p.locks.length) (ys := p.locks.flatMap dcL) st 0 rfl rfl rfl rfl rfl (DcRow.rd (S := (· < n0)) (RowC.kept hL (Same.of_nil st.chg))) underlying22 Tryd.info67 rfl rfl rfl rfl rfl (dcs_len p.locks) (dcs_one p.locks) (by unfold maxLen; omega) (by omega) (by omega) (by simp) ?_)
    intro s2o s2c w st; dsimp only [setNth] at st
    refine vd_next (by exact st.drop (by repeat (first | exact sl0 | apply sl1 | apply sl2))) ?_; intro hS
    refine vd_take rfl rfl rfl hS (fun w st => y_bld (.agg #[_, _, _]) [(0, _), (1, _)] rfl (fun w => by simp [Instr.build, go_sem] <;> repeat' constructor)) ?_
    refine vd_do rfl (e_sts (vs := [_, _, _]) st 2 rfl rfl rfl rfl rfl sizeOf25 rfl rfl (by first | (right; assumption) | (left; simp)) ?_)
    intro w st; dsimp only [setNth, wr] at st
    refine vd_next (by exact st.drop (by repeat (first | exact sl0 | apply sl1 | apply sl2))) ?_; intro hS
    refine vd_end ?_
    refine vq_meet (s1o, s1c, s2o, s2c, b3) ⟨rfl, rfl, rfl, trivial⟩ (by exact st.pick [2, 3, 0, 4, 5] rfl (by decide)) ?_
    ·
     assumption
  ·
   refine (e_al (l := [_, _, _]) st rfl rfl zeroValue25 rfl ?_)
   intro b3 w hb3 st
   refine vd_next (by exact st.drop (by repeat (first | exact sl0 | apply sl1 | apply sl2))) ?_; intro hS
   replace st := st.ownNil 67 3
   replace st := st.ownNil 67 3
   refine vd_do rfl (e_appr (bytes := 32) (len' := p.shared.length) (ys := p.shared.flatMap dcL) st 0 rfl rfl rfl rfl rfl (DcRow.rd (S := (· < n0)) (RowC.kept hSh (Same.of_nil st.chg))) underlying22 Tryd.info67 rfl rfl rfl rfl rfl (dcs_len p.shared) (dcs_one p.shared) (by unfold maxLen; omega) (by omega) (by omega) (by simp) ?_)
   intro s1o s1c w st; dsimp only [setNth] at st
   refine vd_next (by exact st.drop (by repeat (first | exact sl0 | apply sl1 | apply sl2))) ?_; intro hS
   replace st := st.ownNil 67 3
   replace st := st.ownNil 67 3
   refine vd_do rfl (e_appr (bytes := 32) (len' := p.locks.length) (ys := p.locks.flatMap dcL) st 0 rfl rfl rfl rfl rfl (DcRow.rd (S := (· < n0)) (RowC.kept hL (Same.of_nil st.chg))) underlying22 Tryd.info67 rfl rfl rfl rfl rfl (dcs_len p.locks) (dcs_one p.locks) (by unfold maxLen; omega) (by omega) (by omega) (by simp) ?_)
   intro s2o s2c w st; dsimp only [setNth] at st
   refine vd_next (by exact st.drop (by repeat (first | exact sl0 | apply sl1 | apply sl2))) ?_; intro hS
   refine vd_take rfl rfl rfl hS (fun w st => y_bld (.agg #[_, _, _]) [(0, _), (1, _)] rfl (fun w => by simp [Instr.build, go_sem] <;> repeat' constructor)) ?_
   refine vd_do rfl (e_sts (vs := [_, _, _]) st 4 rfl rfl rfl rfl rfl sizeOf25 rfl rfl (by first | (right; assumption) | (left; simp)) ?_)
   intro w st; dsimp only [setNth, wr] at st
   refine vd_next (by exact st.drop (by repeat (first | exact sl0 | apply sl1 | apply sl2))) ?_; intro hS
   refine vd_end ?_
   refine vq_meet (s1o, s1c, s2o, s2c, b3) ⟨rfl, rfl, rfl, trivial⟩ (by exact st.pick [4, 2, 0, 5, 6] rfl (by decide)) ?_
   ·
    assumption
 ·
  clear st
  rintro ⟨s1o, s1c, s2o, s2c, b3⟩ w hb3 st
  dsimp only at *
  refine vc_seq (vc_seq (vc_region ?_))
  replace st := St.pushR (r := .tree [] (fun w => ThSs 63 70 67 w [] [] [])) st (Chg.refl _ _) (holds_of (by simp [ThSs]) (by simp) (fun a b h hk => h.kept hk)) (by simp [Res.at?])
  replace st := st.ownNil 42 4
  refine vc_y rfl rfl ((by exact y_faz (k := 2) rfl underlying25 rfl rfl sizeOf23 rfl)) ?_
  refine vc_y rfl rfl ((by exact y_ld st 6 rfl isAgg23 rfl rfl)) ?_
  refine vc_y rfl rfl (y_lensl rfl underlying23) ?_
  refine vc_y rfl rfl (y_mv rfl) ?_
  refine vc_end (vq_then (vc_keep [(2, _), (3, _), (14, _), (15, _), (16, _)] ⟨rfl, rfl, rfl, rfl, rfl, trivial⟩ (vc_block ?_)))
  refine vc_loop (w0 := w0) (M := []) (fun (y : Nat × Option Addr × Nat × List Value × List Nat) => [(2, .pointer (some ⟨b2, 0, none⟩)), (3, .pointer (some ⟨b3, 0, none⟩)), (14, .slice ot p.threads.length ct), (15, .int .i64 (p.threads.length : Int)), (16, .int .i64 (y.1 : Int))]) (fun y => [.own (.slice y.2.1 y.1 y.2.2.1) 42 4 y.1 y.2.2.2.1, .tree y.2.2.2.2 (fun w => ThSs 63 70 67 w (p.threads.take y.1) y.2.2.2.1 y.2.2.2.2), .blk b3 (.cells [.slice s1o p.shared.length s1c, .slice s2o p.locks.length s2c, .slice y.2.1 y.1 y.2.2.1].toArray 25 (0, 0)), .own (.slice s1o p.shared.length s1c) 67 3 p.shared.length (p.shared.flatMap dcL), .own (.slice s2o p.locks.length s2c) 67 3 p.locks.length (p.locks.flatMap dcL), .blk b2 (.cells [.slice none 0 0, .slice none 0 0, .slice none 0 0].toArray 25 (0, 0))]) (fun y _ => y.1 ≤ p.threads.length ∧ Nw w0.heap.size y.2.2.2.2) (fun y => p.threads.length - y.1) (0, none, 0, [], []) ⟨rfl, rfl, rfl, rfl, rfl, trivial⟩ (by simpa using st.pick [0, 1, 2, 3, 4, 5] rfl (by decide)) ⟨by simp, Nw.nil⟩ ?_
  clear st
  rintro ⟨j, oj, cj, xs, S⟩ w ⟨hj, hSS⟩ st
  dsimp only at *
  refine vc_seq (vc_region ?_)
  refine vc_y rfl rfl (y_lss rfl rfl) ?_
  refine vc_end (vq_then (vc_keep [(2, _), (3, _), (14, _), (15, _), (16, _), (17, _)] ⟨rfl, rfl, rfl, rfl, rfl, rfl, trivial⟩ (vc_seq ?_)))
  refine vc_ifs rfl ?_ ?_
  ·
   intro hc17
   try simp only [dn] at hc17
   have stK := st
   obtain ⟨t, htj⟩ : ∃ t, p.threads[j]? = some t := ⟨_, List.getElem?_eq_getElem (by omega)⟩
   obtain ⟨gb, go, rfl, hgS, hgl, hg⟩ := ThRow.at hT (by omega)
   obtain ⟨tl, tb, cll, cbb, htl, htb, hc⟩ := hg j t htj
   have hkt := hok.2.2.2 j t htj
   have st := stK
   clear stK
   refine vc_code_skip (vq_then (vc_keep [(2, _), (3, _), (14, _), (15, _), (16, _)] ⟨rfl, rfl, rfl, rfl, rfl, trivial⟩ (vc_seq (vc_block (vc_seq (vc_region ?_))))))
   refine vc_y rfl rfl ((by exact y_ia (k := j) rfl rfl underlying23 sizeOf42 rfl (by omega))) ?_
   refine vc_y rfl rfl ((by exact y_ldca (thL t tl tb cll cbb) rfl isAgg42 sizeOf42 rfl (fun i v hi => st.chg.cell (hc i v hi) (by simp)))) ?_
   refine vc_e (e_al (l := [_, _, _, _]) st rfl rfl zeroValue42 rfl ?_)
   intro b5 w hb5 st
   refine vc_e (e_sts (vs := [_, _, _, _]) st 0 rfl rfl rfl rfl rfl sizeOf42 rfl rfl (by first | (right; assumption) | (left; simp)) ?_)
   intro w st; dsimp only [setNth, wr] at st
   refine vc_end (vq_then (vc_keep [(2, _), (3, _), (5, _), (14, _), (15, _), (16, _)] ⟨rfl, rfl, rfl, rfl, rfl, rfl, trivial⟩ (vc_seq (vc_region ?_))))
   refine vc_y rfl rfl ((by exact y_faz (k := 1) rfl underlying42 rfl rfl sizeOf22 rfl)) ?_
   refine vc_y rfl rfl ((by exact y_ld st 0 rfl isAgg22 rfl rfl)) ?_
   replace st := st.ownNil 67 3
   have hn5 := hkt.1.1
   refine vc_e (e_appr (bytes := 32) (len' := t.locals.length) (ys := t.locals.flatMap dcL) st 0 rfl rfl rfl rfl rfl (DcRow.rd (S := (· < n0)) (RowC.kept htl (Same.of_nil st.chg))) underlying22 Tryd.info67 rfl rfl rfl rfl rfl (dcs_len t.locals) (dcs_one t.locals) (by unfold maxLen; omega) (by omega) (by omega) (by simp) ?_)
   intro s3o s3c w st; dsimp only [setNth] at st
   refine vc_y rfl rfl ((by exact y_faz (k := 1) rfl underlying42 rfl rfl sizeOf22 rfl)) ?_
   refine vc_e (e_st st 1 rfl rfl rfl rfl sizeOf22 rfl rfl (by first | (right; assumption) | (left; simp)) ?_)
   intro w st; dsimp only [setNth, wr] at st
   refine vc_end (vq_then (vc_keep [(2, _), (3, _), (5, _), (14, _), (15, _), (16, _)] ⟨rfl, rfl, rfl, rfl, rfl, rfl, trivial⟩ (vc_seq (vc_region ?_))))
   refine vc_y rfl rfl ((by exact y_faz (k := 2) rfl underlying42 rfl rfl sizeOf40 rfl)) ?_
   refine vc_y rfl rfl ((by exact y_ld st 1 rfl isAgg40 rfl rfl)) ?_
   refine vc_e (e_call [_] rfl rfl call98 rfl (pcopyS_any _ t.body rfl hkt.2.1 _ _ _ (htb.kept (Same.of_nil st.chg)) (Nat.le_trans hn0 st.chg.size)) ?_)
   rintro _ w ⟨s4o, s4c, S4, rfl, hQ, hN, cw⟩
   have hN4 := hN.le st.chg.size
   replace st := St.pushR (r := .tree S4 (fun w => SmRQ w s4o s4c t.body S4)) st cw (holds_of hQ hQ.lt (fun a b h hk => h.kept hk)) hN.2
   refine vc_y rfl rfl ((by exact y_faz (k := 2) rfl underlying42 rfl rfl sizeOf40 rfl)) ?_
   refine vc_e (e_st st 2 rfl rfl rfl rfl sizeOf40 rfl rfl (by first | (right; assumption) | (left; simp)) ?_)
   intro w st; dsimp only [setNth, wr] at st
   refine vc_end (vq_then (vc_keep [(2, _), (3, _), (5, _), (14, _), (15, _), (16, _)] ⟨rfl, rfl, rfl, rfl, rfl, rfl, trivial⟩ (vc_region ?_)))
   refine vc_y rfl rfl ((by exact y_faz (k := 2) rfl underlying25 rfl rfl sizeOf23 rfl)) ?_
   refine vc_y rfl rfl ((by exact y_ld st 5 rfl isAgg23 rfl rfl)) ?_
   refine vc_y rfl rfl ((by exact y_lda (vs := [_, _, _, _]) st 2 rfl isAgg42 sizeOf42 rfl rfl)) ?_
   refine vc_e (e_bs1 (l := [_, _, _, _]) st rfl rfl rfl rfl underlying23 sizeOf42 rfl rfl rfl zeroValue42 ?_)
   intro b31 w hb31 st
   refine vc_e (e_app (bytes := 72) st 4 0 rfl rfl rfl rfl rfl rfl underlying23 Tryd.info42 rfl rfl rfl rfl rfl (by simp) rfl rfl (by unfold maxLen; omega) (by omega) ?_)
   intro oaQ capQ w st; dsimp only [setNth] at st
   refine vc_y rfl rfl ((by exact y_faz (k := 2) rfl underlying25 rfl rfl sizeOf23 rfl)) ?_
   refine vc_e (e_st st 6 rfl rfl rfl rfl sizeOf23 rfl rfl (by first | (right; assumption) | (left; simp)) ?_)
   intro w st; dsimp only [setNth, wr] at st
   refine vc_end (vq_block (vq_then (vc_keep [(2, _), (3, _), (14, _), (15, _), (16, _)] ⟨rfl, rfl, rfl, rfl, rfl, trivial⟩ (vc_region ?_))))
   obtain ⟨h3, hN3⟩ := st.ownNw (i := 2) rfl
   have d34 := st.ne (i := 2) (j := 1) (by decide) rfl rfl
   simp only [Res.at?, obk_own] at d34
   have dS3 := st.ne (i := 5) (j := 2) (by decide) rfl rfl
   simp only [Res.at?, obk_own] at dS3
   have dS4 := st.ne (i := 5) (j := 1) (by decide) rfl rfl
   have hNq := hN3.app hN4 d34
   have hne : ∀ b ∈ S, b ∉ obk s3o ++ S4 := fun b hb hb' => (List.mem_append.1 hb').elim (dS3 b hb) (dS4 b hb)
   have h0 := (st.res (i := 5) rfl).1
   have h4 := (st.res (i := 1) rfl).1
   have h5 : ThSs 63 70 67 w (p.threads.take (j + 1)) (xs ++ thL t s3o s4o s3c s4c) (S ++ (obk s3o ++ S4)) := by rw [take_snoc htj]; exact ThSs.snoc h0 ⟨s3o, s3c, s4o, s4c, obk s3o, S4, rfl, ⟨h3, rfl⟩, h4, rfl⟩
   have stN := (((st.pick [5, 2, 1, 4, 6, 7, 8, 9] rfl (by decide)).joinN 3 (q := .tree (S ++ (obk s3o ++ S4)) fun w => ThSs 63 70 67 w (p.threads.take (j + 1)) (xs ++ thL t s3o s4o s3c s4c) (S ++ (obk s3o ++ S4))) (fun k hk => by
     simp only [Res.at?, List.mem_append] at hk
     rcases hk with h | h | h
     · exact ⟨_, .head _, h⟩
     · exact ⟨_, .tail _ (.head _), by simpa [Res.at?, obk_own] using h⟩
     · exact ⟨_, .tail _ (.tail _ (.head _)), h⟩) (holds_of h5 h5.lt (fun a b h hk => h.kept hk)))).pick [1, 0, 2, 3, 4, 5] rfl (by decide)
   refine vc_y rfl rfl (y_add rfl rfl (by omega : _ = ((j + 1 : Nat) : Int)) (by omega) (by omega)) ?_
   refine vc_y rfl rfl (y_mv rfl) ?_
   refine vc_end ?_
   refine vq_again (j + 1, oaQ, capQ, xs ++ thL t s3o s4o s3c s4c, S ++ (obk s3o ++ S4))  ⟨rfl, rfl, rfl, rfl, rfl, trivial⟩ stN ?_ ?_
   ·
    exact ⟨by dsimp only; omega, hSS.app hNq hne⟩
   ·
    dsimp only; omega
  ·
   intro hc17
   try simp only [dn] at hc17
   obtain rfl : j = p.threads.length := by omega
   rw [List.take_length] at st
   refine vc_exit (vq_then_exit (vq_then_exit (vq_block_exit (vq_then (vc_keep [(2, _), (3, _)] ⟨rfl, rfl, trivial⟩ (vc_seq (vc_region ?_)))))))
   refine vc_y rfl rfl ((by exact y_lda (vs := [_, _, _]) st 2 rfl isAgg25 sizeOf25 rfl rfl)) ?_
   refine vc_e (e_sts (vs := [_, _, _]) st 5 rfl rfl rfl rfl rfl sizeOf25 rfl rfl (by first | (right; assumption) | (left; simp)) ?_)
   intro w st; dsimp only [setNth, wr] at st
   refine vc_end (vq_then (vc_keep [(2, _)] ⟨rfl, trivial⟩ (vc_ret ?_)))
   refine vq_ret1 st (.inl rfl) results65 (by exact .cell 5 rfl rfl isAgg25 sizeOf25) ?_
   refine ⟨_, rfl, ?_⟩
   obtain ⟨h1, h2⟩ := st.ownNw (i := 0) rfl
   have h3 := (st.res (i := 1) rfl).1
   obtain ⟨h4, hN1⟩ := st.ownNw (i := 3) rfl
   obtain ⟨h5, hN2⟩ := st.ownNw (i := 4) rfl
   have e0 := st.ne (i := 0) (j := 1) (by decide) rfl rfl
   have e1 := st.ne (i := 3) (j := 4) (by decide) rfl rfl
   have e2 := st.ne (i := 3) (j := 0) (by decide) rfl rfl
   have e3 := st.ne (i := 3) (j := 1) (by decide) rfl rfl
   have e4 := st.ne (i := 4) (j := 0) (by decide) rfl rfl
   have e5 := st.ne (i := 4) (j := 1) (by decide) rfl rfl
   simp only [Res.at?, obk_own] at e0 e1 e2 e3 e4 e5
   exact ⟨_, obk s1o ++ (obk s2o ++ (obk oj ++ S)), rfl, ⟨s1o, s1c, s2o, s2c, oj, cj, obk s1o, obk s2o, obk oj ++ S, rfl, ⟨h4, rfl⟩, ⟨h5, rfl⟩, ⟨xs, S, h1, rfl, h3⟩, rfl⟩,
     hN1.app (hN2.app (h2.app hSS e0) (fun b hb hb' => (List.mem_append.1 hb').elim (e4 b hb) (e5 b hb))) (fun b hb hb' => (List.mem_append.1 hb').elim (e1 b hb) fun h => (List.mem_append.1 h).elim (e2 b hb) (e3 b hb)), st.chg⟩

end
end Go.Proofs.YtnmhlpnapgojjaaDoor


namespace Go.Proofs.YtnmhlpnapgojjaaDoor
open Go.RowKit Sx LexS _root_.Go.Proofs.Tryd
set_option linter.unusedVariables false
set_option linter.unusedSimpArgs false
def t1 (e : Env) (x : Th) : Th := x.setNm (e.g x.nm)
def t2 (e : Env) (x : Th) : Th := (t1 e x).setAt (e.h x.a)
def t3 (e : Env) (x : Th) : Th := (t2 e x).setLocals (x.locals.map (trD e.g e.h))
/-- what a tree is turned by, as a caller has it -/
structure Fns where
 g : List UInt8 → List UInt8
 h : Int → Int
 fn : Nat
 fa : Nat
 cn : List Value
 ca : List Value
 E : List Nat
 ψ : World → Prop
structure Fns.Ok (f : Fns) : Prop where
 nm : ∀ s w, f.ψ w → Ret Tryd.prog f.fn ([] ++ [str s] ++ f.cn) w fun v w' => v = str (f.g s) ∧ w' = w
 at_ : ∀ a w, f.ψ w → Ret Tryd.prog f.fa ([] ++ [.int .i64 a] ++ f.ca) w fun v w' => v = .int .i64 (f.h a) ∧ w' = w
 loc : ∀ w w', f.ψ w → (∀ b ∈ f.E, w'.heap[b]? = w.heap[b]?) → f.ψ w'
 calln : ∀ (xs : Array Value) w, (callFunc f.fn xs).run Tryd.prog w = .ok (.enter f.fn xs) w
 calla : ∀ (xs : Array Value) w, (callFunc f.fa xs).run Tryd.prog w = .ok (.enter f.fa xs) w
def Fns.env (f : Fns) (bn ba be bs : Nat) : Env := ⟨f.g, f.h, f.fn, f.fa, f.cn, f.ca, bn, ba, be, bs, bn :: ba :: be :: bs :: f.E, f.ψ⟩
theorem Fns.Ok.env {f : Fns} (ok : f.Ok) (bn ba be bs : Nat) : (f.env bn ba be bs).Ok :=
 ⟨ok.nm, ok.at_, fun w w' h hk => ok.loc w w' h fun b hb => hk b (by simp [Fns.env, hb]), by simp [Fns.env], by simp [Fns.env], by simp [Fns.env], by simp [Fns.env], ok.calln, ok.calla⟩

set_option maxHeartbeats 4000000 in
theorem turned_any (f : Fns) (ok : f.Ok) {n0 : Nat} (p : Pg) (hok : OkP p) (os ol ot : Option Addr) (cs cl ct : Nat) (w : World) (hSh : DcRow w (· < n0) os p.shared) (hL : DcRow w (· < n0) ol p.locks) (hT : ThRow w (· < n0) ot p.threads) (hn0 : n0 ≤ w.heap.size) (hψ0 : f.ψ w) (hE0 : ∀ b ∈ f.E, b < w.heap.size) :
    Ret Tryd.prog 31 [.agg (pgL p os ol ot cs cl ct).toArray, .func (.func f.fn) #[] f.cn.toArray, .func (.func f.fa) #[] f.ca.toArray] w fun v w' => ∃ l S, v = .agg l.toArray ∧ PgQ w' (trP f.g f.h p) l S ∧ Nw w.heap.size S ∧ Chg [] w w' := by
 refine ret_of [_, _, _] func31 rfl ntmps31 rfl ?_
 have st := St.init w []
 obtain ⟨w0, rfl⟩ : ∃ w0, w0 = w := ⟨_, rfl⟩
 have hn1 := hok.1.1
 have hn2 := hok.2.1.1
 have hn3 := hok.2.2.1
 have hψ : ∀ {w : World}, Chg [] w0 w → f.ψ w := fun c => ok.loc _ _ hψ0 fun b hb => c.block b (hE0 b hb) (by simp)
 refine vc_seq (vc_region ?_)
 refine vc_e (e_bx (l := [_, _, _]) st rfl rfl rfl rfl ?_)
 intro b3 w hb3 st
 refine vc_e (e_bx (l := [_]) st rfl rfl rfl rfl ?_)
 intro b4 w hb4 st
 refine vc_e (e_bx (l := [_]) st rfl rfl rfl rfl ?_)
 intro b5 w hb5 st
 refine vc_e (e_al (l := [_, _, _]) st rfl rfl zeroValue25 rfl ?_)
 intro b6 w hb6 st
 refine vc_end (vq_then (vc_keep [(3, _), (4, _), (5, _), (6, _)] ⟨rfl, rfl, rfl, rfl, trivial⟩ (vc_seq (vc_region ?_))))
 refine vc_y rfl rfl ((by exact y_lda (vs := [_, _, _]) st 3 rfl isAgg25 sizeOf25 rfl rfl)) ?_
 refine vc_e (e_call [_] rfl rfl call65 rfl (pcopyP_any p hok _ _ _ _ _ _ _ (RowC.kept hSh (Same.of_nil st.chg)) (RowC.kept hL (Same.of_nil st.chg)) (hT.kept (Same.of_nil st.chg)) (Nat.le_trans hn0 st.chg.size)) ?_)
 rintro _ w ⟨l, S, rfl, hQ, hN, cw⟩
 have hN := hN
 have hN0 := hN.le st.chg.size
 have hQ2 := hQ
 obtain ⟨os1, cs1, ol1, cl1, ot1, ct1, Ss, Sl, Stt, rfl, q1, q2, q3, rfl⟩ := hQ2
 replace st := St.pushR (r := .tree (Ss ++ (Sl ++ Stt)) (fun _ => True)) st cw (holds_of trivial hQ.lt (fun _ _ _ _ => trivial)) hN.2
 replace st := st.split (φ := fun w => DcRQ w os1 cs1 p.shared Ss) (ψ := fun _ => True) hN0.1 q1 trivial loc_dc (loc_of fun _ _ _ _ => trivial)
 replace st := (st.pick [1, 0, 2, 3, 4, 5] rfl (by decide)).split (φ := fun w => DcRQ w ol1 cl1 p.locks Sl) (ψ := fun w => ThRQ w ot1 ct1 p.threads Stt) hN0.right.1 q2 q3 loc_dc loc_th
 replace st := st.pick [1, 2, 0, 3, 4, 5, 6] rfl (by decide)
 have hN1 := hN0.left
 have hN2 := hN0.right.left
 have hN3 := hN0.right.right
 have hd12 := hN0.ne
 have hd23 := hN0.right.ne
 refine vc_e (e_al (l := [_, _, _]) st rfl rfl zeroValue25 rfl ?_)
 intro b7 w hb7 st
 refine vc_e (e_sts (vs := [_, _, _]) st 0 rfl rfl rfl rfl rfl sizeOf25 rfl rfl (by first | (right; assumption) | (left; simp)) ?_)
 intro w st; dsimp only [setNth, wr] at st
 refine vc_end (vq_then (vc_keep [(4, _), (5, _), (6, _), (7, _)] ⟨rfl, rfl, rfl, rfl, trivial⟩ (vc_seq (vc_region ?_))))
 refine vc_y rfl rfl (y_mf [] [_, _] rfl rfl) ?_
 refine vc_y rfl rfl (y_as rfl) ?_
 refine vc_end (vq_then (vc_keep [(4, _), (5, _), (6, _), (7, _), (8, _)] ⟨rfl, rfl, rfl, rfl, rfl, trivial⟩ (vc_seq (vc_region ?_))))
 refine vc_e (e_al (l := [_]) st rfl rfl zeroValue77 rfl ?_)
 intro b9 w hb9 st
 refine vc_end (vq_then (vc_keep [(4, _), (5, _), (6, _), (7, _), (8, _), (9, _)] ⟨rfl, rfl, rfl, rfl, rfl, rfl, trivial⟩ (vc_seq (vc_region ?_))))
 refine vc_y rfl rfl (y_mf [] [_, _, _] rfl rfl) ?_
 refine vc_e (e_st st 0 rfl rfl rfl rfl sizeOf77 rfl rfl (by first | (right; assumption) | (left; simp)) ?_)
 intro w st; dsimp only [setNth, wr] at st
 refine vc_end (vq_then (vc_keep [(4, _), (5, _), (6, _), (7, _), (8, _), (9, _)] ⟨rfl, rfl, rfl, rfl, rfl, rfl, trivial⟩ (vc_seq (vc_region ?_))))
 refine vc_e (e_al (l := [_]) st rfl rfl zeroValue78 rfl ?_)
 intro b10 w hb10 st
 refine vc_end (vq_then (vc_keep [(4, _), (5, _), (6, _), (7, _), (8, _), (9, _), (10, _)] ⟨rfl, rfl, rfl, rfl, rfl, rfl, rfl, trivial⟩ (vc_seq (vc_region ?_))))
 refine vc_y rfl rfl (y_mf [] [_, _, _, _] rfl rfl) ?_
 refine vc_e (e_st st 0 rfl rfl rfl rfl sizeOf78 rfl rfl (by first | (right; assumption) | (left; simp)) ?_)
 intro w st; dsimp only [setNth, wr] at st
 refine vc_end (vq_then (vc_keep [(4, _), (5, _), (6, _), (7, _), (8, _), (10, _)] ⟨rfl, rfl, rfl, rfl, rfl, rfl, trivial⟩ (vc_seq (vc_region ?_))))
 have hok9 := ok.env b4 b5 b9 b10
 refine vc_y rfl rfl (y_mv rfl) ?_
 refine vc_y rfl rfl (y_fa0 rfl underlying25 rfl rfl sizeOf22 rfl) ?_
 refine vc_y rfl rfl ((by exact y_ld st 2 rfl isAgg22 rfl rfl)) ?_
 refine vc_e (e_callv [_] rfl rfl rfl call66 rfl (dl_any (f.env b4 b5 b9 b10) hok9 p.shared hn1 os1 cs1 Ss _ (st.res (i := 4) rfl).1 hN1.1 ⟨st.res (i := 8) rfl, st.res (i := 7) rfl, hψ st.chg⟩ (fun k hk => by
     simp only [Fns.env, List.mem_cons] at hk
     rcases hk with rfl | rfl | rfl | rfl | h
     · exact st.lt (mem_nth (i := 8) rfl) (.head _)
     · exact st.lt (mem_nth (i := 7) rfl) (.head _)
     · exact st.lt (mem_nth (i := 1) rfl) (.head _)
     · exact st.lt (mem_nth (i := 0) rfl) (.head _)
     · exact Nat.lt_of_lt_of_le (hE0 k h) st.chg.size) (fun k hk hk' => by
     simp only [Fns.env, List.mem_cons] at hk'
     rcases hk' with rfl | rfl | rfl | rfl | h
     · exact st.ne (i := 4) (j := 8) (by decide) rfl rfl _ (hk) (.head _)
     · exact st.ne (i := 4) (j := 7) (by decide) rfl rfl _ (hk) (.head _)
     · exact st.ne (i := 4) (j := 1) (by decide) rfl rfl _ (hk) (.head _)
     · exact st.ne (i := 4) (j := 0) (by decide) rfl rfl _ (hk) (.head _)
     · have := hE0 k h; have := hN1.2 k hk; omega)) ?_)
 rintro _ w ⟨rfl, hq, hc⟩
 replace st := st.withinI (i := 4) (fun w => DcRQ w os1 cs1 (p.shared.map (trD f.g f.h)) Ss) rfl hc (fun k hk => hk) (fun k hk => .inr (hN1.2 k hk)) hq loc_dc
 dsimp only [setNth] at st
 refine vc_end (vq_then (vc_keep [(4, _), (5, _), (6, _), (7, _), (8, _), (10, _)] ⟨rfl, rfl, rfl, rfl, rfl, rfl, trivial⟩ (vc_seq (vc_region ?_))))
 refine vc_y rfl rfl (y_mv rfl) ?_
 refine vc_y rfl rfl ((by exact y_faz (k := 1) rfl underlying25 rfl rfl sizeOf22 rfl)) ?_
 refine vc_y rfl rfl ((by exact y_ld st 2 rfl isAgg22 rfl rfl)) ?_
 refine vc_e (e_callv [_] rfl rfl rfl call66 rfl (dl_any (f.env b4 b5 b9 b10) hok9 p.locks hn2 ol1 cl1 Sl _ (st.res (i := 5) rfl).1 hN2.1 ⟨st.res (i := 8) rfl, st.res (i := 7) rfl, hψ st.chg⟩ (fun k hk => by
     simp only [Fns.env, List.mem_cons] at hk
     rcases hk with rfl | rfl | rfl | rfl | h
     · exact st.lt (mem_nth (i := 8) rfl) (.head _)
     · exact st.lt (mem_nth (i := 7) rfl) (.head _)
     · exact st.lt (mem_nth (i := 1) rfl) (.head _)
     · exact st.lt (mem_nth (i := 0) rfl) (.head _)
     · exact Nat.lt_of_lt_of_le (hE0 k h) st.chg.size) (fun k hk hk' => by
     simp only [Fns.env, List.mem_cons] at hk'
     rcases hk' with rfl | rfl | rfl | rfl | h
     · exact st.ne (i := 5) (j := 8) (by decide) rfl rfl _ (hk) (.head _)
     · exact st.ne (i := 5) (j := 7) (by decide) rfl rfl _ (hk) (.head _)
     · exact st.ne (i := 5) (j := 1) (by decide) rfl rfl _ (hk) (.head _)
     · exact st.ne (i := 5) (j := 0) (by decide) rfl rfl _ (hk) (.head _)
     · have := hE0 k h; have := hN2.2 k hk; omega)) ?_)
 rintro _ w ⟨rfl, hq, hc⟩
 replace st := st.withinI (i := 5) (fun w => DcRQ w ol1 cl1 (p.locks.map (trD f.g f.h)) Sl) rfl hc (fun k hk => hk) (fun k hk => .inr (hN2.2 k hk)) hq loc_dc
 dsimp only [setNth] at st
 refine vc_end (vq_then (vc_keep [(4, _), (5, _), (6, _), (7, _), (8, _), (10, _)] ⟨rfl, rfl, rfl, rfl, rfl, rfl, trivial⟩ (vc_seq (vc_seq (vc_region ?_)))))
 refine vc_y rfl rfl ((by exact y_faz (k := 2) rfl underlying25 rfl rfl sizeOf23 rfl)) ?_
 refine vc_y rfl rfl ((by exact y_ld st 2 rfl isAgg23 rfl rfl)) ?_
 refine vc_y rfl rfl (y_lensl rfl underlying23) ?_
 refine vc_y rfl rfl (y_mv rfl) ?_
 refine vc_end (vq_then (vc_keep [(4, _), (5, _), (6, _), (7, _), (8, _), (10, _), (28, _), (29, _)] ⟨rfl, rfl, rfl, rfl, rfl, rfl, rfl, rfl, trivial⟩ (vc_block ?_)))
 refine vc_loop (w0 := w0) (M := []) (fun (j : Nat) => [(4, .pointer (some ⟨b4, 0, none⟩)), (5, .pointer (some ⟨b5, 0, none⟩)), (6, .pointer (some ⟨b6, 0, none⟩)), (7, .pointer (some ⟨b7, 0, none⟩)), (8, .func (.func 66) #[] [.pointer (some ⟨b4, 0, none⟩), .pointer (some ⟨b5, 0, none⟩)].toArray), (10, .pointer (some ⟨b10, 0, none⟩)), (28, .int .i64 (p.threads.length : Int)), (29, .int .i64 (j : Int))]) (fun j => [.tree Stt (fun w => ThRQ w ot1 ct1 (mixL (trT f.g f.h) p.threads j) Stt), .tree Ss (fun w => DcRQ w os1 cs1 (p.shared.map (trD f.g f.h)) Ss), .tree Sl (fun w => DcRQ w ol1 cl1 (p.locks.map (trD f.g f.h)) Sl), .blk b10 (.cells [.func (.func 68) #[] [.pointer (some ⟨b4, 0, none⟩), .pointer (some ⟨b5, 0, none⟩), .pointer (some ⟨b9, 0, none⟩), .pointer (some ⟨b10, 0, none⟩)].toArray].toArray 78 (0, 0)), .blk b9 (.cells [.func (.func 67) #[] [.pointer (some ⟨b4, 0, none⟩), .pointer (some ⟨b5, 0, none⟩), .pointer (some ⟨b9, 0, none⟩)].toArray].toArray 77 (0, 0)), .blk b7 (.cells [.slice os1 p.shared.length cs1, .slice ol1 p.locks.length cl1, .slice ot1 p.threads.length ct1].toArray 25 (0, 0)), .blk b6 (.cells [.slice none 0 0, .slice none 0 0, .slice none 0 0].toArray 25 (0, 0)), .blk b5 (.cells [.func (.func f.fa) #[] f.ca.toArray].toArray 73 (0, 0)), .blk b4 (.cells [.func (.func f.fn) #[] f.cn.toArray].toArray 72 (0, 0))]) (fun j _ => j ≤ p.threads.length) (fun j => p.threads.length - j) 0 ⟨rfl, rfl, rfl, rfl, rfl, rfl, rfl, rfl, trivial⟩ (by simpa only [mixL_zero] using st.pick [3, 4, 5, 0, 1, 2, 6, 7, 8] rfl (by decide)) (by omega) ?_
 clear st
 rintro j w hj st
 refine vc_seq (vc_region ?_)
 refine vc_y rfl rfl (y_lss rfl rfl) ?_
 refine vc_end (vq_then (vc_keep [(4, _), (5, _), (6, _), (7, _), (8, _), (10, _), (28, _), (29, _), (30, _)] ⟨rfl, rfl, rfl, rfl, rfl, rfl, rfl, rfl, rfl, trivial⟩ (vc_seq ?_)))
 refine vc_ifs rfl ?_ ?_
 ·
  intro hc30
  try simp only [dn] at hc30
  obtain ⟨x, hx⟩ : ∃ x, p.threads[j]? = some x := ⟨_, List.getElem?_eq_getElem (by omega)⟩
  have hkx := hok.2.2.2 j x hx
  have hm0 := mixL_get (f := trT f.g f.h) hx
  have hm1 : (((mixL (trT f.g f.h) p.threads j)).set j (t1 (f.env b4 b5 b9 b10) x))[j]? = some (t1 (f.env b4 b5 b9 b10) x) := set_get hm0
  have hm2 : (((mixL (trT f.g f.h) p.threads j)).set j (t2 (f.env b4 b5 b9 b10) x))[j]? = some (t2 (f.env b4 b5 b9 b10) x) := set_get hm0
  have hm3 : (((mixL (trT f.g f.h) p.threads j)).set j (t3 (f.env b4 b5 b9 b10) x))[j]? = some (t3 (f.env b4 b5 b9 b10) x) := set_get hm0
  have h12 : (((mixL (trT f.g f.h) p.threads j)).set j (t1 (f.env b4 b5 b9 b10) x)).set j ((t1 (f.env b4 b5 b9 b10) x).setAt (f.h x.a)) = (((mixL (trT f.g f.h) p.threads j)).set j (t2 (f.env b4 b5 b9 b10) x)) := List.set_set ..
  have h23 : (((mixL (trT f.g f.h) p.threads j)).set j (t2 (f.env b4 b5 b9 b10) x)).set j ((t2 (f.env b4 b5 b9 b10) x).setLocals (x.locals.map (trD f.g f.h))) = (((mixL (trT f.g f.h) p.threads j)).set j (t3 (f.env b4 b5 b9 b10) x)) := List.set_set ..
  have h34 : (((mixL (trT f.g f.h) p.threads j)).set j (t3 (f.env b4 b5 b9 b10) x)).set j ((t3 (f.env b4 b5 b9 b10) x).setBody (trSs f.g f.h x.body)) = mixL (trT f.g f.h) p.threads (j + 1) := by rw [List.set_set]; exact mixL_step (f := trT f.g f.h) hx
  have stK := st
  obtain ⟨b, _, _, _, _, _, _, rfl, -⟩ := thR_focus (st.res (i := 0) rfl).1 hN3.1 hm0
  have st := stK
  clear stK
  have hcell0 : ∀ w, ThRQ w (some ⟨b, 0, none⟩) ct1 (mixL (trT f.g f.h) p.threads j) Stt → w.cell? ⟨b, j * 4 + 0, none⟩ = some (str x.nm) ∧ w.cell? ⟨b, j * 4 + 3, none⟩ = some (.int .i64 x.a) := fun w h => by
   obtain ⟨b', _, _, _, _, _, _, hb', -, hc, -⟩ := thR_focus h hN3.1 hm0
   simp only [Option.some.injEq, Addr.mk.injEq, and_true] at hb'
   subst hb'
   exact ⟨hc 0 _ rfl, hc 3 _ rfl⟩
  refine vc_code_skip (vq_then (vc_keep [(4, _), (5, _), (6, _), (7, _), (8, _), (10, _), (28, _), (29, _)] ⟨rfl, rfl, rfl, rfl, rfl, rfl, rfl, rfl, trivial⟩ (vc_seq (vc_block (vc_seq (vc_region ?_))))))
  refine vc_y rfl rfl (y_mv rfl) ?_
  refine vc_y rfl rfl (y_as rfl) ?_
  refine vc_end (vq_then (vc_keep [(4, _), (5, _), (6, _), (7, _), (8, _), (10, _), (11, _), (28, _), (29, _)] ⟨rfl, rfl, rfl, rfl, rfl, rfl, rfl, rfl, rfl, trivial⟩ (vc_seq (vc_region ?_))))
  refine vc_y rfl rfl ((by exact y_faz (k := 2) rfl underlying25 rfl rfl sizeOf23 rfl)) ?_
  refine vc_y rfl rfl ((by exact y_ld st 5 rfl isAgg23 rfl rfl)) ?_
  refine vc_y rfl rfl (y_mv rfl) ?_
  refine vc_y rfl rfl ((by exact y_ia0 (k := j) rfl rfl underlying23 sizeOf42 rfl (by omega))) ?_
  refine vc_y rfl rfl (y_as rfl) ?_
  refine vc_end (vq_then (vc_keep [(4, _), (5, _), (6, _), (7, _), (8, _), (10, _), (12, _), (28, _), (29, _)] ⟨rfl, rfl, rfl, rfl, rfl, rfl, rfl, rfl, rfl, trivial⟩ (vc_seq ?_)))
  refine vk_draw Tryd.mixed [(0, true), (1, true), (3, true), (4, true), (5, true), (9, true), (10, true), (11, true), (2, true), (6, true), (8, true), (12, true), (7, false), (13, false), (14, true), (15, true), (16, false), (17, true), (18, true), (19, false)] 16 (fun w => St _ _ [.tree Stt (fun w => ThRQ w (some ⟨b, 0, none⟩) ct1 (mixL (trT f.g f.h) p.threads j) Stt), .tree Ss (fun w => DcRQ w os1 cs1 (p.shared.map (trD f.g f.h)) Ss), .tree Sl (fun w => DcRQ w ol1 cl1 (p.locks.map (trD f.g f.h)) Sl), .blk b10 (.cells [.func (.func 68) #[] [.pointer (some ⟨b4, 0, none⟩), .pointer (some ⟨b5, 0, none⟩), .pointer (some ⟨b9, 0, none⟩), .pointer (some ⟨b10, 0, none⟩)].toArray].toArray 78 (0, 0)), .blk b9 (.cells [.func (.func 67) #[] [.pointer (some ⟨b4, 0, none⟩), .pointer (some ⟨b5, 0, none⟩), .pointer (some ⟨b9, 0, none⟩)].toArray].toArray 77 (0, 0)), .blk b7 (.cells [.slice os1 p.shared.length cs1, .slice ol1 p.locks.length cl1, .slice (some ⟨b, 0, none⟩) p.threads.length ct1].toArray 25 (0, 0)), .blk b6 (.cells [.slice none 0 0, .slice none 0 0, .slice none 0 0].toArray 25 (0, 0)), .blk b5 (.cells [.func (.func f.fa) #[] f.ca.toArray].toArray 73 (0, 0)), .blk b4 (.cells [.func (.func f.fn) #[] f.cn.toArray].toArray 72 (0, 0))] w) (by exact st) (by kernel_rfl) (by repeat (first | exact okQ_body | refine okQ_then ?_ | refine okQ_block ?_)) rfl (by kernel_rfl) rfl ?_
  intro w cd; replace st := st.call0 cd; clear cd
  have hS : St _ _ [.tree Stt (fun w => ThRQ w (some ⟨b, 0, none⟩) ct1 (mixL (trT f.g f.h) p.threads j) Stt), .tree Ss (fun w => DcRQ w os1 cs1 (p.shared.map (trD f.g f.h)) Ss), .tree Sl (fun w => DcRQ w ol1 cl1 (p.locks.map (trD f.g f.h)) Sl), .blk b10 (.cells [.func (.func 68) #[] [.pointer (some ⟨b4, 0, none⟩), .pointer (some ⟨b5, 0, none⟩), .pointer (some ⟨b9, 0, none⟩), .pointer (some ⟨b10, 0, none⟩)].toArray].toArray 78 (0, 0)), .blk b9 (.cells [.func (.func 67) #[] [.pointer (some ⟨b4, 0, none⟩), .pointer (some ⟨b5, 0, none⟩), .pointer (some ⟨b9, 0, none⟩)].toArray].toArray 77 (0, 0)), .blk b7 (.cells [.slice os1 p.shared.length cs1, .slice ol1 p.locks.length cl1, .slice (some ⟨b, 0, none⟩) p.threads.length ct1].toArray 25 (0, 0)), .blk b6 (.cells [.slice none 0 0, .slice none 0 0, .slice none 0 0].toArray 25 (0, 0)), .blk b5 (.cells [.func (.func f.fa) #[] f.ca.toArray].toArray 73 (0, 0)), .blk b4 (.cells [.func (.func f.fn) #[] f.cn.toArray].toArray 72 (0, 0))] w := (by exact st)
  iterate 3 refine vk_takeU rfl rfl rfl rfl (fun _ => hS) (fun w => y_mv rfl) ?_
  refine vk_takeU rfl rfl rfl rfl (fun _ => hS) (fun w => y_nck rfl) ?_
  refine vk_takeU rfl rfl rfl rfl (fun _ => hS) (fun w => y_fa0 rfl underlying42 rfl rfl sizeOf9 rfl) ?_
  refine vk_takeU rfl rfl rfl rfl (fun _ => hS) (fun w => y_mv rfl) ?_
  refine vk_takeU rfl rfl rfl rfl (fun _ => hS) (fun w => y_nck rfl) ?_
  refine vk_takeU rfl rfl rfl rfl (fun _ => hS) (fun w => (by exact y_fa (k := 3) rfl underlying42 rfl rfl sizeOf3 rfl)) ?_
  refine vk_take rfl rfl rfl rfl hS (fun w st => (by exact y_ld st 8 rfl isAgg72 rfl rfl)) ?_
  refine vk_take rfl rfl rfl rfl hS (fun w st => (by exact y_ldc rfl isAgg9 (hcell0 _ (st.res (i := 0) rfl).1).1)) ?_
  refine vk_take rfl rfl rfl rfl hS (fun w st => (by exact y_ld st 7 rfl isAgg73 rfl rfl)) ?_
  refine vk_take rfl rfl rfl rfl hS (fun w st => (by exact y_ldc rfl isAgg3 (hcell0 _ (st.res (i := 0) rfl).1).2)) ?_
  refine vk_do rfl rfl (e_callv [_] rfl rfl rfl ok.calln rfl (ok.nm x.nm _ (hψ st.chg)) ?_)
  rintro _ _ ⟨rfl, rfl⟩
  refine vk_next (by exact st) ?_; intro hS
  refine vk_do rfl rfl (e_callv [_] rfl rfl rfl ok.calla rfl (ok.at_ x.a _ (hψ st.chg)) ?_)
  rintro _ _ ⟨rfl, rfl⟩
  refine vk_next (by exact st) ?_; intro hS
  refine vk_takeU rfl rfl rfl rfl (fun _ => hS) (fun w => y_nck rfl) ?_
  refine vk_takeU rfl rfl rfl rfl (fun _ => hS) (fun w => y_fa0 rfl underlying42 rfl rfl sizeOf9 rfl) ?_
  obtain ⟨c1, om1, cm1, on1, cn1, Sl1, Sb1, hb1, r1, k1, ql1, qb1, nl1, nb1, ul1, ub1, z1, z2, pl1, pb1⟩ := thR_focus (st.res (i := 0) rfl).1 hN3.1 hm0
  simp only [Option.some.injEq, Addr.mk.injEq, and_true] at hb1
  subst hb1
  refine vk_do rfl rfl (e_stT st 0 (ψ := fun w => ThRQ w (some ⟨b, 0, none⟩) ct1 (((mixL (trT f.g f.h) p.threads j)).set j (t1 (f.env b4 b5 b9 b10) x)) Stt) rfl rfl rfl rfl sizeOf9 rfl r1.mem (.inr (hN3.2 _ r1.mem)) ⟨_, k1 0 _ rfl⟩ (r1.fz _) (z1 _) loc_th ?_)
  intro w st; dsimp only [setNth] at st
  refine vk_late ?_
  refine vk_takeU rfl rfl rfl rfl (fun h => by cases h) (fun w => y_nck rfl) ?_
  refine vk_takeU rfl rfl rfl rfl (fun h => by cases h) (fun w => (by exact y_fa (k := 3) rfl underlying42 rfl rfl sizeOf3 rfl)) ?_
  clear z1 z2
  obtain ⟨c2, om2, cm2, on2, cn2, Sl2, Sb2, hb2, r2, k2, ql2, qb2, nl2, nb2, ul2, ub2, z1, z2, pl2, pb2⟩ := thR_focus (st.res (i := 0) rfl).1 hN3.1 hm1
  simp only [Option.some.injEq, Addr.mk.injEq, and_true] at hb2
  subst hb2
  refine vk_do rfl rfl (e_stT st 0 (ψ := fun w => ThRQ w (some ⟨b, 0, none⟩) ct1 (((mixL (trT f.g f.h) p.threads j)).set j (t2 (f.env b4 b5 b9 b10) x)) Stt) rfl rfl rfl rfl sizeOf3 rfl r2.mem (.inr (hN3.2 _ r2.mem)) ⟨_, k2 3 _ rfl⟩ (r2.fz _) (h12 ▸ z2 (f.h x.a)) loc_th ?_)
  intro w st; dsimp only [setNth] at st
  refine vk_late ?_
  refine vk_end ?_
  refine vq_then (vc_keep [(4, _), (5, _), (6, _), (7, _), (8, _), (10, _), (12, _), (28, _), (29, _)] ⟨rfl, rfl, rfl, rfl, rfl, rfl, rfl, rfl, rfl, trivial⟩ (vc_seq (vc_region ?_)))
  clear z1 z2
  obtain ⟨c3, om3, cm3, on3, cn3, Sl3, Sb3, hb3, r3, k3, ql3, qb3, nl3, nb3, ul3, ub3, z1, z2, pl3, pb3⟩ := thR_focus (st.res (i := 0) rfl).1 hN3.1 hm2
  simp only [Option.some.injEq, Addr.mk.injEq, and_true] at hb3
  subst hb3
  iterate 2 refine vc_y rfl rfl (y_mv rfl) ?_
  refine vc_y rfl rfl (y_nck rfl) ?_
  refine vc_y rfl rfl ((by exact y_fa (k := 1) rfl underlying42 rfl rfl sizeOf22 rfl)) ?_
  refine vc_y rfl rfl ((by exact y_ldc rfl isAgg22 (k3 1 _ rfl))) ?_
  refine vc_e (e_callv [_] rfl rfl rfl call66 rfl (dl_any (f.env b4 b5 b9 b10) hok9 x.locals hkx.1.1 om3 cm3 Sl3 _ ql3 nl3 ⟨st.res (i := 8) rfl, st.res (i := 7) rfl, hψ st.chg⟩ (fun k hk => by
      simp only [Fns.env, List.mem_cons] at hk
      rcases hk with rfl | rfl | rfl | rfl | h
      · exact st.lt (mem_nth (i := 8) rfl) (.head _)
      · exact st.lt (mem_nth (i := 7) rfl) (.head _)
      · exact st.lt (mem_nth (i := 4) rfl) (.head _)
      · exact st.lt (mem_nth (i := 3) rfl) (.head _)
      · exact Nat.lt_of_lt_of_le (hE0 k h) st.chg.size) (fun k hk hk' => by
      simp only [Fns.env, List.mem_cons] at hk'
      rcases hk' with rfl | rfl | rfl | rfl | h
      · exact st.ne (i := 0) (j := 8) (by decide) rfl rfl _ (ul3 k hk) (.head _)
      · exact st.ne (i := 0) (j := 7) (by decide) rfl rfl _ (ul3 k hk) (.head _)
      · exact st.ne (i := 0) (j := 4) (by decide) rfl rfl _ (ul3 k hk) (.head _)
      · exact st.ne (i := 0) (j := 3) (by decide) rfl rfl _ (ul3 k hk) (.head _)
      · have := hE0 k h; have := hN3.2 k (ul3 k hk); omega)) ?_)
  rintro _ w ⟨rfl, hq, hc⟩
  replace st := st.withinI (i := 0) (fun w => ThRQ w (some ⟨b, 0, none⟩) ct1 (((mixL (trT f.g f.h) p.threads j)).set j (t3 (f.env b4 b5 b9 b10) x)) Stt) rfl hc ul3 (fun k hk => .inr (hN3.2 k hk)) (h23 ▸ pl3 w (x.locals.map (trD f.g f.h)) (by rw [List.length_map]; rfl) hq hc) loc_th
  dsimp only [setNth] at st
  refine vc_end (vq_then (vc_keep [(4, _), (5, _), (6, _), (7, _), (8, _), (10, _), (12, _), (28, _), (29, _)] ⟨rfl, rfl, rfl, rfl, rfl, rfl, rfl, rfl, rfl, trivial⟩ ?_))
  refine vk_draw Tryd.mixed [(1, true), (2, true), (3, true), (0, true), (4, false), (5, false)] 5 (fun w => St _ _ [.tree Stt (fun w => ThRQ w (some ⟨b, 0, none⟩) ct1 (((mixL (trT f.g f.h) p.threads j)).set j (t3 (f.env b4 b5 b9 b10) x)) Stt), .tree Ss (fun w => DcRQ w os1 cs1 (p.shared.map (trD f.g f.h)) Ss), .tree Sl (fun w => DcRQ w ol1 cl1 (p.locks.map (trD f.g f.h)) Sl), .blk b10 (.cells [.func (.func 68) #[] [.pointer (some ⟨b4, 0, none⟩), .pointer (some ⟨b5, 0, none⟩), .pointer (some ⟨b9, 0, none⟩), .pointer (some ⟨b10, 0, none⟩)].toArray].toArray 78 (0, 0)), .blk b9 (.cells [.func (.func 67) #[] [.pointer (some ⟨b4, 0, none⟩), .pointer (some ⟨b5, 0, none⟩), .pointer (some ⟨b9, 0, none⟩)].toArray].toArray 77 (0, 0)), .blk b7 (.cells [.slice os1 p.shared.length cs1, .slice ol1 p.locks.length cl1, .slice (some ⟨b, 0, none⟩) p.threads.length ct1].toArray 25 (0, 0)), .blk b6 (.cells [.slice none 0 0, .slice none 0 0, .slice none 0 0].toArray 25 (0, 0)), .blk b5 (.cells [.func (.func f.fa) #[] f.ca.toArray].toArray 73 (0, 0)), .blk b4 (.cells [.func (.func f.fn) #[] f.cn.toArray].toArray 72 (0, 0))] w) (by exact st) (by kernel_rfl) (by repeat (first | exact okQ_body | refine okQ_then ?_ | refine okQ_block ?_)) rfl (by kernel_rfl) rfl ?_
  intro w cd; replace st := st.call0 cd; clear cd
  have hS : St _ _ [.tree Stt (fun w => ThRQ w (some ⟨b, 0, none⟩) ct1 (((mixL (trT f.g f.h) p.threads j)).set j (t3 (f.env b4 b5 b9 b10) x)) Stt), .tree Ss (fun w => DcRQ w os1 cs1 (p.shared.map (trD f.g f.h)) Ss), .tree Sl (fun w => DcRQ w ol1 cl1 (p.locks.map (trD f.g f.h)) Sl), .blk b10 (.cells [.func (.func 68) #[] [.pointer (some ⟨b4, 0, none⟩), .pointer (some ⟨b5, 0, none⟩), .pointer (some ⟨b9, 0, none⟩), .pointer (some ⟨b10, 0, none⟩)].toArray].toArray 78 (0, 0)), .blk b9 (.cells [.func (.func 67) #[] [.pointer (some ⟨b4, 0, none⟩), .pointer (some ⟨b5, 0, none⟩), .pointer (some ⟨b9, 0, none⟩)].toArray].toArray 77 (0, 0)), .blk b7 (.cells [.slice os1 p.shared.length cs1, .slice ol1 p.locks.length cl1, .slice (some ⟨b, 0, none⟩) p.threads.length ct1].toArray 25 (0, 0)), .blk b6 (.cells [.slice none 0 0, .slice none 0 0, .slice none 0 0].toArray 25 (0, 0)), .blk b5 (.cells [.func (.func f.fa) #[] f.ca.toArray].toArray 73 (0, 0)), .blk b4 (.cells [.func (.func f.fn) #[] f.cn.toArray].toArray 72 (0, 0))] w := (by exact st)
  refine vk_takeU rfl rfl rfl rfl (fun _ => hS) (fun w => y_mv rfl) ?_
  refine vk_takeU rfl rfl rfl rfl (fun _ => hS) (fun w => y_nck rfl) ?_
  refine vk_takeU rfl rfl rfl rfl (fun _ => hS) (fun w => (by exact y_fa (k := 2) rfl underlying42 rfl rfl sizeOf40 rfl)) ?_
  refine vk_take rfl rfl rfl rfl hS (fun w st => (by exact y_ld st 3 rfl isAgg78 rfl rfl)) ?_
  clear z1 z2
  obtain ⟨c4, om4, cm4, on4, cn4, Sl4, Sb4, hb4, r4, k4, ql4, qb4, nl4, nb4, ul4, ub4, z1, z2, pl4, pb4⟩ := thR_focus (st.res (i := 0) rfl).1 hN3.1 hm3
  simp only [Option.some.injEq, Addr.mk.injEq, and_true] at hb4
  subst hb4
  refine vk_do rfl rfl (e_run rfl rfl ((by exact y_ldc rfl isAgg40 (k4 2 _ rfl))) ?_)
  refine vk_next (by exact st) ?_; intro hS
  refine vk_do rfl rfl (e_callv [_] rfl rfl rfl call68 rfl (sl_any (f.env b4 b5 b9 b10) hok9 _ x.body rfl hkx.2.1 on4 cn4 Sb4 _ qb4 nb4 ⟨⟨⟨st.res (i := 8) rfl, st.res (i := 7) rfl, hψ st.chg⟩, st.res (i := 4) rfl⟩, st.res (i := 3) rfl⟩ (fun k hk => by
      simp only [Fns.env, List.mem_cons] at hk
      rcases hk with rfl | rfl | rfl | rfl | h
      · exact st.lt (mem_nth (i := 8) rfl) (.head _)
      · exact st.lt (mem_nth (i := 7) rfl) (.head _)
      · exact st.lt (mem_nth (i := 4) rfl) (.head _)
      · exact st.lt (mem_nth (i := 3) rfl) (.head _)
      · exact Nat.lt_of_lt_of_le (hE0 k h) st.chg.size) (fun k hk hk' => by
      simp only [Fns.env, List.mem_cons] at hk'
      rcases hk' with rfl | rfl | rfl | rfl | h
      · exact st.ne (i := 0) (j := 8) (by decide) rfl rfl _ (ub4 k hk) (.head _)
      · exact st.ne (i := 0) (j := 7) (by decide) rfl rfl _ (ub4 k hk) (.head _)
      · exact st.ne (i := 0) (j := 4) (by decide) rfl rfl _ (ub4 k hk) (.head _)
      · exact st.ne (i := 0) (j := 3) (by decide) rfl rfl _ (ub4 k hk) (.head _)
      · have := hE0 k h; have := hN3.2 k (ub4 k hk); omega)) ?_)
  rintro _ w ⟨rfl, hq, hc⟩
  replace st := st.withinI (i := 0) (fun w => ThRQ w (some ⟨b, 0, none⟩) ct1 (mixL (trT f.g f.h) p.threads (j + 1)) Stt) rfl hc ub4 (fun k hk => .inr (hN3.2 k hk)) (h34 ▸ pb4 w (trSs f.g f.h x.body) (by rw [trSs_len]; rfl) hq hc) loc_th
  dsimp only [setNth] at st
  refine vk_late ?_
  refine vk_end ?_
  refine vq_block (vq_then (vc_keep [(4, _), (5, _), (6, _), (7, _), (8, _), (10, _), (28, _), (29, _)] ⟨rfl, rfl, rfl, rfl, rfl, rfl, rfl, rfl, trivial⟩ (vc_region ?_)))
  refine vc_y rfl rfl (y_add rfl rfl (by omega : _ = ((j + 1 : Nat) : Int)) (by omega) (by omega)) ?_
  refine vc_y rfl rfl (y_mv rfl) ?_
  refine vc_end ?_
  refine vq_again (j + 1)  ⟨rfl, rfl, rfl, rfl, rfl, rfl, rfl, rfl, trivial⟩ st ?_ ?_
  ·
   omega
  ·
   omega
 ·
  intro hc30
  try simp only [dn] at hc30
  obtain rfl : j = p.threads.length := by omega
  rw [mixL_all] at st
  refine vc_exit (vq_then_exit (vq_then_exit (vq_block_exit (vq_then (vc_keep [(6, _), (7, _)] ⟨rfl, rfl, trivial⟩ (vc_seq (vc_region ?_)))))))
  refine vc_y rfl rfl ((by exact y_lda (vs := [_, _, _]) st 5 rfl isAgg25 sizeOf25 rfl rfl)) ?_
  refine vc_e (e_sts (vs := [_, _, _]) st 6 rfl rfl rfl rfl rfl sizeOf25 rfl rfl (by first | (right; assumption) | (left; simp)) ?_)
  intro w st; dsimp only [setNth, wr] at st
  refine vc_end (vq_then (vc_keep [(6, _)] ⟨rfl, trivial⟩ (vc_ret ?_)))
  refine vq_ret1 st (.inl rfl) results31 (by exact .cell 6 rfl rfl isAgg25 sizeOf25) ?_
  refine ⟨_, rfl, ?_⟩
  exact ⟨_, Ss ++ (Sl ++ Stt), rfl, ⟨os1, cs1, ol1, cl1, ot1, ct1, Ss, Sl, Stt, by simp [trP], (st.res (i := 1) rfl).1, (st.res (i := 2) rfl).1, (st.res (i := 0) rfl).1, rfl⟩, hN0, st.chg⟩

end Go.Proofs.YtnmhlpnapgojjaaDoor


/- How long a tree's text is: no program in sight. -/
namespace LexS
open Sx
set_option linter.unusedVariables false
set_option linter.unusedSimpArgs false
theorem shw_len20 (x : Int) (hx : i64 x) : (shw x).length ≤ 20 := by
  have h : (dec x.natAbs).length ≤ 19 := dec_len 18 _ (by have := hx.1; have := hx.2; omega)
  unfold shw
  split <;> simp <;> omega
theorem par_len (b : Bool) (l : List UInt8) : (par b l).length ≤ l.length + 2 := by
  unfold par
  split <;> simp
theorem txtE_len : ∀ (n : Nat) (e : Ex), SizeOf.sizeOf e = n → OkE e → (txtE e).length ≤ 30 * szE e := by
  intro n
  refine Nat.strongRecOn n fun n ih e hn hok => ?_
  subst hn
  cases e with
  | mk k op wd nm kids a =>
    have hw := shw_len20 wd hok.wd
    have ho := shwO_len op
    have hkid : ∀ (j : Nat) x, kids[j]? = some x → (txtE x).length ≤ 30 * szE x := fun j x hx => ih _ (by have := List.sizeOf_lt_of_mem (List.mem_of_getElem? hx); simp; omega) x rfl (hok.kid (j := j) hx)
    rcases kids with _ | ⟨x, _ | ⟨y, _ | ⟨z, r⟩⟩⟩
    · simp only [txtE, szE, szEs]
      split
      · omega
      · split
        · omega
        · split <;> simp; omega
    · have h1 := hkid 0 x rfl
      have h2 := par_len (decide (x.k = 4)) (txtE x)
      simp only [txtE, szE, szEs]
      split
      · omega
      · split
        · omega
        · split
          · simp only [List.length_append]; omega
          · simp
    · have h1 := hkid 0 x rfl
      have h2 := par_len (inn op x false) (txtE x)
      have h3 := hkid 1 y rfl
      have h4 := par_len (inn op y true) (txtE y)
      simp only [txtE, szE, szEs]
      split
      · omega
      · split
        · omega
        · split
          · simp; omega
          · simp only [List.length_append, List.length_cons, List.length_nil]; omega
    · simp only [txtE, szE, szEs]
      split
      · omega
      · split
        · omega
        · split <;> simp; omega
theorem txX_len (l : List Ex) (h : OkEs l) : (txX l).length ≤ 30 * szEs l := by
  cases l with
  | nil => simp [txX]
  | cons x r => have := txtE_len _ x rfl (h.2 0 x rfl); simp only [txX, szEs]; omega
theorem mar_len' (d : Nat) : (mar d).length = 2 * d := by simp [mar]
theorem txtSs_len_of {l : List Sm} {d : Nat} (h : ∀ s ∈ l, rightS s d = true → (txtS s d).length ≤ 600 * szS s) (hr : rightSs l d = true) : (txtSs l d).length ≤ 600 * szSs l := by
  induction l with
  | nil => simp [txtSs]
  | cons s r ih =>
    simp only [rightSs, Bool.and_eq_true] at hr
    have h1 := h s (by simp) hr.1
    have h2 := ih (fun x hx => h x (.tail _ hx)) hr.2
    simp only [txtSs, szSs, List.length_append]; omega
theorem txtS_len : ∀ (n : Nat) (s : Sm), SizeOf.sizeOf s = n → OkS s → ∀ d, d ≤ 64 → rightS s d = true → (txtS s d).length ≤ 600 * szS s := by
  intro n
  refine Nat.strongRecOn n fun n ih s hn hok d hd hr => ?_
  subst hn
  cases s with
  | mk k nm other e body els a =>
    have hx := txX_len e hok.e
    rw [rightS] at hr
    simp only [Bool.and_eq_true, Bool.or_eq_true, decide_eq_true_eq, Bool.not_eq_true', Bool.or_eq_false_iff, decide_eq_false_iff_not] at hr
    obtain ⟨⟨⟨⟨⟨⟨⟨⟨h1, h2⟩, h3⟩, h4⟩, h5⟩, h6⟩, h7⟩, h8⟩, h9⟩ := hr
    have hm := mar_len' d
    have hb : d < 64 ∨ (body = [] ∧ els = []) := by
      rcases h7 with ⟨q1, q2⟩ | h
      · right
        refine ⟨?_, List.eq_nil_of_length_eq_zero (by omega)⟩
        rcases h5 with h | h
        · rw [q1] at h; cases h
        · exact List.eq_nil_of_length_eq_zero h
      · exact .inl h
    have hB : (txtSs body (d + 1)).length ≤ 600 * szSs body := by
      rcases hb with h | ⟨rfl, -⟩
      · refine txtSs_len_of (fun s hs hr => ?_) h8
        obtain ⟨j, hj⟩ := List.mem_iff_getElem?.1 hs
        exact ih _ (by have := List.sizeOf_lt_of_mem hs; simp; omega) s rfl (hok.body.2 j s hj) (d + 1) (by omega) hr
      · simp [txtSs]
    have hL : (txtSs els (d + 1)).length ≤ 600 * szSs els := by
      rcases hb with h | ⟨-, rfl⟩
      · refine txtSs_len_of (fun s hs hr => ?_) h9
        obtain ⟨j, hj⟩ := List.mem_iff_getElem?.1 hs
        exact ih _ (by have := List.sizeOf_lt_of_mem hs; simp; omega) s rfl (hok.els.2 j s hj) (d + 1) (by omega) hr
      · simp [txtSs]
    rw [txtS, szS]
    split
    · simp only [List.length_append, List.length_cons, List.length_nil]; omega
    · split
      · simp only [List.length_append, List.length_cons, List.length_nil]; omega
      · split
        · simp only [List.length_append, List.length_cons, List.length_nil]; omega
        · split
          · simp only [List.length_append, List.length_cons, List.length_nil]; omega
          · split
            · simp only [List.length_append, List.length_cons, List.length_nil]; omega
            · have hw : (if k = 4 then [119, 104, 105, 108, 101, 32, 40] else [105, 102, 32, 40] : List UInt8).length ≤ 7 := by split <;> simp
              have hz : (if 0 < els.length then mar d ++ [125, 32, 101, 108, 115, 101, 32, 123, 10] ++ txtSs els (d + 1) else [] : List UInt8).length ≤ 2 * d + 9 + 600 * szSs els := by
                split
                · simp only [List.length_append, List.length_cons, List.length_nil]; omega
                · simp
              rw [List.length_append, List.length_append, List.length_append, List.length_append, List.length_append, List.length_append, List.length_append]
              simp only [List.length_cons, List.length_nil]
              omega
theorem txtSs_len {l : List Sm} {d : Nat} (hok : OkSs l) (hd : d ≤ 64) (hr : rightSs l d = true) : (txtSs l d).length ≤ 600 * szSs l :=
  txtSs_len_of (fun s hs h => by
    obtain ⟨j, hj⟩ := List.mem_iff_getElem?.1 hs
    exact txtS_len _ s rfl (hok.2 j s hj) d hd h) hr
theorem joinC_len2 : ∀ (l : List Dc), (∀ x ∈ l, i64 x.wd) → (joinC (l.map dcT)).length ≤ 30 * szDs l
  | [], _ => by simp [joinC]
  | [x], h => by
    have := shw_len20 x.wd (h x (by simp))
    simp only [List.map_cons, List.map_nil, joinC, dcT, szDs]
    split <;> simp <;> omega
  | x :: y :: r, h => by
    have h0 := shw_len20 x.wd (h x (by simp))
    have ih := joinC_len2 (y :: r) (fun z hz => h z (.tail _ hz))
    simp only [List.map_cons, joinC, szDs, List.length_append, List.length_cons, List.length_nil] at ih ⊢
    have : (dcT x).length ≤ x.nm.length + 23 := by unfold dcT; split <;> simp <;> omega
    omega
theorem dcsT_len (word : List UInt8) (d : Nat) (l : List Dc) (h : OkD l) : (dcsT word d l).length ≤ 2 * d + word.length + 3 + 30 * szDs l := by
  have := joinC_len2 l (fun x hx => by obtain ⟨j, hj⟩ := List.mem_iff_getElem?.1 hx; exact (h.2 j x hj).1)
  unfold dcsT
  split
  · simp
  · simp only [List.length_append, List.length_cons, List.length_nil, mar_len']; omega
theorem thsT_len : ∀ (l : List Th), (∀ t ∈ l, OkD t.locals ∧ OkSs t.body) → (∀ t ∈ l, thOk t = true) → ((l.map thT).flatten).length ≤ 600 * szTs l
  | [], _, _ => by simp
  | t :: r, h, h2 => by
    obtain ⟨q1, q2⟩ := h t (by simp)
    have ih := thsT_len r (fun x hx => h x (.tail _ hx)) (fun x hx => h2 x (.tail _ hx))
    have h3 := h2 t (by simp)
    unfold thOk at h3
    simp only [Bool.and_eq_true] at h3
    have h4 := txtSs_len q2 (d := 1) (by omega) h3.2
    have h5 := dcsT_len [108, 111, 99, 97, 108] 1 t.locals q1
    simp only [List.map_cons, List.flatten_cons, List.length_append, szTs, thT, List.length_cons, List.length_nil] at h5 ih ⊢
    omega
theorem pgT_len (p : Pg) (hok : OkP p) (hp : pgOk p = true) : (pgT p).length ≤ 100 + 600 * szP p := by
  obtain ⟨h1, h2, h3⟩ := hok
  unfold pgOk at hp
  simp only [Bool.and_eq_true] at hp
  have a1 := dcsT_len [115, 104, 97, 114, 101, 100] 0 p.shared h1
  have a2 := dcsT_len [108, 111, 99, 107] 0 p.locks h2
  have a3 := thsT_len p.threads (fun t ht => by obtain ⟨j, hj⟩ := List.mem_iff_getElem?.1 ht; exact ⟨(h3.2 j t hj).1, (h3.2 j t hj).2.1⟩) (fun t ht => List.all_eq_true.1 hp.2 t ht)
  simp only [pgT, szP, List.length_append, List.length_cons, List.length_nil] at a1 a2 a3 ⊢
  omega
end LexS


/- Places change no text: no program in sight. -/
namespace LexS
open Sx
set_option linter.unusedVariables false
set_option linter.unusedSimpArgs false
abbrev idS : List UInt8 → List UInt8 := fun s => s
section
variable {h : Int → Int}
theorem trE_k (e : Ex) : (trE idS h e).k = e.k := by cases e; rfl
theorem trE_op (e : Ex) : (trE idS h e).op = e.op := by cases e; rfl
theorem inn_tr (op : Int) (x : Ex) (b : Bool) : inn op (trE idS h x) b = inn op x b := by unfold inn; rw [trE_k, trE_op]
theorem rightE_tr : ∀ (n : Nat) (e : Ex), SizeOf.sizeOf e = n → ∀ d, rightE (trE idS h e) d = rightE e d := by
  intro n
  refine Nat.strongRecOn n fun n ih e hn d => ?_
  subst hn
  cases e with
  | mk k op wd nm kids a =>
    have hkid : ∀ x ∈ kids, ∀ d, rightE (trE idS h x) d = rightE x d := fun x hx d => ih _ (by have := List.sizeOf_lt_of_mem hx; simp; omega) x rfl d
    rcases kids with _ | ⟨x, _ | ⟨y, _ | ⟨z, r⟩⟩⟩
    · simp only [trE, trEs, rightE]
    · simp only [trE, trEs, rightE, trE_k, hkid x (by simp)]; simp
    · simp only [trE, trEs, rightE, inn_tr, hkid x (by simp), hkid y (by simp)]; simp
    · simp only [trE, trEs, rightE]; simp
theorem txtE_tr : ∀ (n : Nat) (e : Ex), SizeOf.sizeOf e = n → txtE (trE idS h e) = txtE e := by
  intro n
  refine Nat.strongRecOn n fun n ih e hn => ?_
  subst hn
  cases e with
  | mk k op wd nm kids a =>
    have hkid : ∀ x ∈ kids, txtE (trE idS h x) = txtE x := fun x hx => ih _ (by have := List.sizeOf_lt_of_mem hx; simp; omega) x rfl
    rcases kids with _ | ⟨x, _ | ⟨y, _ | ⟨z, r⟩⟩⟩
    · simp only [trE, trEs, txtE]
    · simp only [trE, trEs, txtE, trE_k, hkid x (by simp)]
    · simp only [trE, trEs, txtE, inn_tr, hkid x (by simp), hkid y (by simp)]
    · simp only [trE, trEs, txtE]
theorem rightX_tr (b : Bool) (l : List Ex) : rightX b (trEs idS h l) = rightX b l := by
  rcases l with _ | ⟨x, _ | ⟨y, r⟩⟩
  · rfl
  · simp only [trEs, rightX, rightE_tr _ x rfl]; simp
  · simp only [trEs, rightX]; simp [trEs_map]
theorem txX_tr (l : List Ex) : txX (trEs idS h l) = txX l := by
  cases l with
  | nil => rfl
  | cons x r => simp only [trEs, txX, txtE_tr _ x rfl]
theorem trSs_len' (l : List Sm) : (trSs idS h l).length = l.length := by rw [trSs_map, List.length_map]
mutual
theorem rightS_tr : ∀ (s : Sm) (d : Nat), rightS (trS idS h s) d = rightS s d
  | .mk k nm other e body els a, d => by
    simp only [trS, rightS, rightX_tr, trSs_len', rightSs_tr body, rightSs_tr els]
termination_by structural s => s
theorem rightSs_tr : ∀ (l : List Sm) (d : Nat), rightSs (trSs idS h l) d = rightSs l d
  | [], d => rfl
  | s :: r, d => by simp only [trSs, rightSs, rightS_tr s, rightSs_tr r]
termination_by structural l => l
end
mutual
theorem txtS_tr : ∀ (s : Sm) (d : Nat), txtS (trS idS h s) d = txtS s d
  | .mk k nm other e body els a, d => by
    simp only [trS, txtS, txX_tr, trSs_len', txtSs_tr body, txtSs_tr els]
termination_by structural s => s
theorem txtSs_tr : ∀ (l : List Sm) (d : Nat), txtSs (trSs idS h l) d = txtSs l d
  | [], d => rfl
  | s :: r, d => by simp only [trSs, txtSs, txtS_tr s, txtSs_tr r]
termination_by structural l => l
end
theorem all_map {α : Type} {p : α → Bool} {f : α → α} (hp : ∀ x, p (f x) = p x) (l : List α) : (l.map f).all p = l.all p := by
  rw [List.all_map]; congr 1; funext x; exact hp x
theorem dcOk_tr (b : Bool) (x : Dc) : dcOk b (trD idS h x) = dcOk b x := rfl
theorem thOk_tr (t : Th) : thOk (trT idS h t) = thOk t := by
  simp only [thOk, trT, all_map (dcOk_tr false), rightSs_tr]
theorem dcsT_tr (word : List UInt8) (d : Nat) (l : List Dc) : dcsT word d (l.map (trD idS h)) = dcsT word d l := by
  simp only [dcsT, List.length_map, List.map_map]; rfl
theorem thT_tr (t : Th) : thT (trT idS h t) = thT t := by
  simp only [thT, trT, dcsT_tr, txtSs_tr]
theorem pgOk_tr (p : Pg) : pgOk (trP idS h p) = pgOk p := by
  simp only [pgOk, trP, all_map (dcOk_tr true), all_map (dcOk_tr false), all_map thOk_tr]
theorem pgT_tr (p : Pg) : pgT (trP idS h p) = pgT p := by
  simp only [pgT, trP, dcsT_tr, List.map_map]
  congr 2
  refine List.map_congr_left fun t _ => ?_
  exact thT_tr t
theorem pgRes_tr (p : Pg) : pgRes (trP idS h p) = pgRes p := by
  simp only [pgRes, pgOk_tr, pgT_tr]
/-! ### the same but for places -/
theorem zipA_map {α : Type} {f : α → α → Bool} {g : α → α} {a : List α} (hf : ∀ x ∈ a, f x (g x) = true) : zipA f a (a.map g) = true :=
  zipA_yes (by simp) fun j x y hj h1 h2 => by
    rw [List.getElem?_map, h1] at h2
    cases h2
    exact hf x (List.mem_of_getElem? h1)
theorem sameE_tr : ∀ (n : Nat) (e : Ex), SizeOf.sizeOf e = n → sameE e (trE idS h e) = true := by
  intro n
  refine Nat.strongRecOn n fun n ih e hn => ?_
  subst hn
  rw [sameE_eq, trE_eq, trEs_map]
  simp only [Ex.k, Ex.op, Ex.wd, Ex.nm, Ex.kids, and_self, decide_true, Bool.true_and]
  exact zipA_map fun x hx => ih _ (memE_lt hx) x rfl
theorem sameS_tr : ∀ (n : Nat) (s : Sm), SizeOf.sizeOf s = n → sameS s (trS idS h s) = true := by
  intro n
  refine Nat.strongRecOn n fun n ih s hn => ?_
  subst hn
  rw [sameS_eq, trS_eq, trEs_map, trSs_map, trSs_map]
  simp only [Sm.k, Sm.nm, Sm.other, Sm.e, Sm.body, Sm.els, and_self, decide_true, Bool.true_and, Bool.and_eq_true]
  exact ⟨⟨zipA_map fun x hx => sameE_tr _ x rfl, zipA_map fun x hx => ih _ (memS_lt (.inl hx)) x rfl⟩, zipA_map fun x hx => ih _ (memS_lt (.inr hx)) x rfl⟩
theorem sameP_tr (p : Pg) : sameP p (trP idS h p) = true := by
  unfold sameP
  simp only [trP, Bool.and_eq_true]
  refine ⟨⟨zipA_map fun x _ => by simp [sameD, trD], zipA_map fun x _ => by simp [sameD, trD]⟩, zipA_map fun t _ => ?_⟩
  unfold sameT
  simp only [trT, decide_true, Bool.true_and, Bool.and_eq_true]
  exact ⟨zipA_map fun x _ => by simp [sameD, trD], by rw [trSs_map]; exact zipA_map fun x _ => sameS_tr _ x rfl⟩
end
/-! ### twice -/
section
variable {g : List UInt8 → List UInt8} {h g' : List UInt8 → List UInt8} {k k' : Int → Int}
mutual
theorem trE_trE : ∀ e : Ex, trE g' k' (trE g k e) = trE (fun s => g' (g s)) (fun a => k' (k a)) e
  | .mk _ op wd nm kids a => by simp only [trE, trEs_trEs kids]
termination_by structural e => e
theorem trEs_trEs : ∀ l : List Ex, trEs g' k' (trEs g k l) = trEs (fun s => g' (g s)) (fun a => k' (k a)) l
  | [] => rfl
  | e :: r => by simp only [trEs, trE_trE e, trEs_trEs r]
termination_by structural l => l
end
mutual
theorem trS_trS : ∀ s : Sm, trS g' k' (trS g k s) = trS (fun s => g' (g s)) (fun a => k' (k a)) s
  | .mk _ nm other e body els a => by simp only [trS, trEs_trEs, trSs_trSs body, trSs_trSs els]
termination_by structural e => e
theorem trSs_trSs : ∀ l : List Sm, trSs g' k' (trSs g k l) = trSs (fun s => g' (g s)) (fun a => k' (k a)) l
  | [] => rfl
  | s :: r => by simp only [trSs, trS_trS s, trSs_trSs r]
termination_by structural l => l
end
theorem trP_trP (p : Pg) : trP g' k' (trP g k p) = trP (fun s => g' (g s)) (fun a => k' (k a)) p := by
  have hd : ∀ l : List Dc, (l.map (trD g k)).map (trD g' k') = l.map (trD (fun s => g' (g s)) (fun a => k' (k a))) := fun l => by rw [List.map_map]; rfl
  simp only [trP, hd, List.map_map]
  congr 1
  refine List.map_congr_left fun t _ => ?_
  simp only [Function.comp, trT, hd, trSs_trSs]
end
/-! ### the numbers stay of their kinds -/
section
variable {g : List UInt8 → List UInt8} {k : Int → Int} (hk : ∀ a, i64 a → i64 (k a))
include hk
theorem okE_tr : ∀ (n : Nat) (e : Ex), SizeOf.sizeOf e = n → OkE e → OkE (trE g k e) := by
  intro n
  refine Nat.strongRecOn n fun n ih e hn hok => ?_
  subst hn
  rw [trE_eq, trEs_map]
  refine .mk hok.k hok.op hok.wd (hk _ hok.a) (by simpa using hok.kids.1) fun j x hx => ?_
  rw [List.getElem?_map] at hx
  cases hj : e.kids[j]? with
  | none => rw [hj] at hx; cases hx
  | some y =>
    rw [hj] at hx
    cases hx
    exact ih _ (memE_lt (List.mem_of_getElem? hj)) y rfl (hok.kid hj)
theorem okEs_tr {l : List Ex} (h : OkEs l) : OkEs (trEs g k l) := by
  rw [trEs_map]
  refine ⟨by simpa using h.1, fun j x hx => ?_⟩
  rw [List.getElem?_map] at hx
  cases hj : l[j]? with
  | none => rw [hj] at hx; cases hx
  | some y => rw [hj] at hx; cases hx; exact okE_tr hk _ y rfl (h.2 j y hj)
theorem okS_tr : ∀ (n : Nat) (s : Sm), SizeOf.sizeOf s = n → OkS s → OkS (trS g k s) := by
  intro n
  refine Nat.strongRecOn n fun n ih s hn hok => ?_
  subst hn
  rw [trS_eq, trSs_map, trSs_map]
  have key : ∀ (l : List Sm), (∀ x ∈ l, SizeOf.sizeOf x < SizeOf.sizeOf s) → OkSs l → ∀ (j : Nat) x, (l.map (trS g k))[j]? = some x → OkS x := fun l hl h j x hx => by
    rw [List.getElem?_map] at hx
    cases hj : l[j]? with
    | none => rw [hj] at hx; cases hx
    | some y => rw [hj] at hx; cases hx; exact ih _ (hl y (List.mem_of_getElem? hj)) y rfl (h.2 j y hj)
  exact .mk hok.k (hk _ hok.a) (okEs_tr hk hok.e) (by simpa using hok.body.1) (key _ (fun x hx => memS_lt (.inl hx)) hok.body) (by simpa using hok.els.1) (key _ (fun x hx => memS_lt (.inr hx)) hok.els)
theorem okSs_tr {l : List Sm} (h : OkSs l) : OkSs (trSs g k l) := by
  rw [trSs_map]
  refine ⟨by simpa using h.1, fun j x hx => ?_⟩
  rw [List.getElem?_map] at hx
  cases hj : l[j]? with
  | none => rw [hj] at hx; cases hx
  | some y => rw [hj] at hx; cases hx; exact okS_tr hk _ y rfl (h.2 j y hj)
theorem okD_tr {l : List Dc} (h : OkD l) : OkD (l.map (trD g k)) := by
  refine ⟨by simpa using h.1, fun j x hx => ?_⟩
  rw [List.getElem?_map] at hx
  cases hj : l[j]? with
  | none => rw [hj] at hx; cases hx
  | some y => rw [hj] at hx; cases hx; exact ⟨(h.2 j y hj).1, hk _ (h.2 j y hj).2⟩
theorem okP_tr {p : Pg} (h : OkP p) : OkP (trP g k p) := by
  refine ⟨okD_tr hk h.1, okD_tr hk h.2.1, by simpa [trP] using h.2.2.1, fun j t hj => ?_⟩
  simp only [trP, List.getElem?_map] at hj
  cases hx : p.threads[j]? with
  | none => rw [hx] at hj; cases hj
  | some y =>
    rw [hx] at hj
    cases hj
    obtain ⟨h1, h2, h3⟩ := h.2.2.2 j y hx
    exact ⟨okD_tr hk h1, okSs_tr hk h2, hk _ h3⟩
end
end LexS

