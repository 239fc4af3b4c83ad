/- A part of the proof: contracts of functions and plain laws; each theorem says its own conditions. -/
import Derived.Lib.AppendZerosOnto
import Derived.Sort.OwnSorted
import Derived.Sort.KeysCollected
import Derived.Test.YtnmhlpnapgojjaaDoorK9
import Derived.Test.YtnmhlpnapgojjaaDoorK10
import Derived.Test.YtnmhlpnapgojjaaDoorK2
import Derived.Test.YtnmhlpnapgojjaaDoorTrydShelfQ
namespace Go.Proofs.YtnmhlpnapgojjaaDoor
open Go.RowKit Sx LexS
set_option linter.unusedVariables false
set_option linter.unusedSimpArgs false
/-- where the closures of Names lie: the map, its box, the boxes of the three functions -/
structure NEnv where
  b : Nat
  bm : Nat
  bf : Nat
  be : Nat
  bs : Nat
namespace NEnv
def E (e : NEnv) : List Nat := [e.bm, e.bf, e.be, e.bs]
def pm (e : NEnv) : Value := .pointer (some ⟨e.bm, 0, none⟩)
def pf (e : NEnv) : Value := .pointer (some ⟨e.bf, 0, none⟩)
def pe (e : NEnv) : Value := .pointer (some ⟨e.be, 0, none⟩)
def ps (e : NEnv) : Value := .pointer (some ⟨e.bs, 0, none⟩)
structure ins (e : NEnv) (w : World) : Prop where
  m : w.heap[e.bm]? = some (.cells [.map (some e.b)].toArray 76 (0, 0))
  f : w.heap[e.bf]? = some (.cells [.func (.func 40) #[] [e.pm].toArray].toArray 55 (0, 0))
  l : w.heap[e.be]? = some (.cells [.func (.func 41) #[] [e.pf, e.pe].toArray].toArray 77 (0, 0))
  s : w.heap[e.bs]? = some (.cells [.func (.func 42) #[] [e.pf, e.pe, e.ps].toArray].toArray 78 (0, 0))
variable {e : NEnv} {w w' : World}
theorem ins.kept (h : e.ins w) (hk : ∀ b ∈ e.E, w'.heap[b]? = w.heap[b]?) : e.ins w' :=
  ⟨by rw [hk _ (by simp [E])]; exact h.m, by rw [hk _ (by simp [E])]; exact h.f, by rw [hk _ (by simp [E])]; exact h.l, by rw [hk _ (by simp [E])]; exact h.s⟩
theorem ins.loc : Sx.Loc e.E e.ins := fun a b _ hk h => h.kept hk
theorem ins.lt (h : e.ins w) : ∀ b ∈ e.E, b < w.heap.size := by
  intro b hb
  simp only [E, List.mem_cons, List.not_mem_nil, or_false] at hb
  rcases hb with rfl | rfl | rfl | rfl
  · exact (Array.getElem?_eq_some_iff.1 h.m).1
  · exact (Array.getElem?_eq_some_iff.1 h.f).1
  · exact (Array.getElem?_eq_some_iff.1 h.l).1
  · exact (Array.getElem?_eq_some_iff.1 h.s).1
end NEnv
theorem st_names {w : World} {e : NEnv} {ks : List Wd} (hM : MapK w e.b ks) (hE : e.ins w) (hd : e.b ∉ e.E) : St w [e.b] [.tree [e.b] (fun w => MapK w e.b ks), .tree e.E e.ins] w :=
  St.two (w := w) (φ := fun w => MapK w e.b ks) (ψ := e.ins) hM hE (by simpa using hM.lt) hE.lt (Loc_MapK _ _) NEnv.ins.loc (by simpa using hd)
section
variable {S : Nat → Prop}

theorem add_any (e : NEnv) (hd : e.b ∉ e.E) (s : Wd) (ks : List Wd) (w : World) (hM : MapK w e.b ks) (hE : e.ins w) :
    Ret Tryd.prog 40 ([] ++ [str s] ++ [e.pm]) w fun v w' => v = .tuple #[] ∧ MapK w' e.b (addK s ks) ∧ Chg [e.b] w w' := by
  refine ret_of [_, _] Tryd.func40 rfl Tryd.ntmps40 rfl ?_
  have st := St.init w [e.b]
  clear st
  obtain ⟨w0, rfl⟩ : ∃ w0, w0 = w := ⟨_, rfl⟩
  have st := st_names hM hE hd
  refine vc_seq ?_
  refine vc_region ?_
  refine vc_y rfl rfl (y_mv rfl) ?_
  refine vc_y rfl rfl (y_nes rfl rfl) ?_
  refine vc_end ?_
  refine vq_then ?_
  refine vc_keep [(0, _), (1, _), (4, _)] ⟨rfl, rfl, rfl, trivial⟩ ?_
  refine vc_ifs rfl ?_ ?_
  · intro hc4
    try simp only [dn] at hc4
    refine vc_region ?_
    refine vc_y rfl rfl ((by exact y_ldc rfl Tryd.isAgg76 (cell_nth (st.res (i := 1) rfl).1.m rfl))) ?_
    refine vc_y rfl rfl (y_mv rfl) ?_
    refine vc_e (e_lk st 0 rfl rfl rfl rfl rfl Tryd.underlying76 Tryd.underlying9 Tryd.zeroValue3 ?_)
    intro c7
    refine vc_y rfl rfl (y_addk rfl rfl rfl) ?_
    refine vc_e (e_mu st 0 rfl rfl rfl rfl rfl (by first | (right; assumption) | (left; simp)) Tryd.underlying76 Tryd.underlying9 ?_)
    intro w st; dsimp only [setNth] at st
    refine vc_end ?_
    refine vq_ret0 (.inr rfl) Tryd.results40 ?_
    refine ⟨_, rfl, ?_⟩
    have hs : ¬ s = [] := by simpa using hc4
    unfold addK
    rw [if_neg hs]
    exact ⟨rfl, (st.res (i := 0) rfl).1, st.chg⟩
  · intro hc4
    try simp only [dn] at hc4
    refine vc_code_skip ?_
    refine vq_ret0 (.inr rfl) Tryd.results40 ?_
    refine ⟨_, rfl, ?_⟩
    have hs : s = [] := by simpa using hc4
    unfold addK
    rw [if_pos hs]
    exact ⟨rfl, (st.res (i := 0) rfl).1, st.chg⟩

set_option maxHeartbeats 1000000 in
theorem nel_any (e : NEnv) (hd : e.b ∉ e.E) (hS : ¬ S e.b) : ∀ (n : Nat) (es : List Ex), szo es = n → OkEs es → ∀ (oa : Option Addr) (cap : Nat) (ks : List Wd) (w : World), ExRow w S oa es → MapK w e.b ks → e.ins w →
    Ret Tryd.prog 41 ([] ++ [.slice oa es.length cap] ++ [e.pf, e.pe]) w fun v w' => v = .tuple #[] ∧ MapK w' e.b (addAll (nmsEs es) ks) ∧ Chg [e.b] w w' := by
  intro n
  refine Nat.strongRecOn n fun n ih => ?_
  intro es hn hok oa cap ks w hQ hM hE
  subst hn
  have hn := hok.1
  refine ret_of [_, _, _] Tryd.func41 rfl Tryd.ntmps41 rfl ?_
  have st := St.init w [e.b]
  clear st
  obtain ⟨w0, rfl⟩ : ∃ w0, w0 = w := ⟨_, rfl⟩
  have st := st_names hM hE hd
  refine vc_seq ?_
  refine vc_region ?_
  refine vc_y rfl rfl (y_mv rfl) ?_
  refine vc_y rfl rfl (y_lensl rfl Tryd.underlying61) ?_
  refine vc_y rfl rfl (y_mv rfl) ?_
  refine vc_end ?_
  refine vq_then ?_
  refine vc_keep [(1, _), (2, _), (6, _), (7, _), (8, _)] ⟨rfl, rfl, rfl, rfl, rfl, trivial⟩ ?_
  refine vc_block ?_
  refine vc_loop (w0 := w0) (M := [e.b]) (fun (j : Nat) => [(6, .slice oa es.length cap), (1, e.pf), (2, e.pe), (7, .int .i64 (es.length : Int)), (8, .int .i64 (j : Int))]) (fun j => [.tree [e.b] (fun w => MapK w e.b (addAll ((es.take j).flatMap nmsE) ks)), .tree e.E e.ins]) (fun j _ => j ≤ es.length) (fun j => es.length - j) 0 ⟨rfl, rfl, rfl, rfl, rfl, trivial⟩ st (by omega) ?_
  clear st
  rintro j w hj st
  refine vc_seq ?_
  refine vc_region ?_
  refine vc_y rfl rfl (y_lss rfl rfl) ?_
  refine vc_end ?_
  refine vq_then ?_
  refine vc_keep [(1, _), (2, _), (6, _), (7, _), (8, _), (9, _)] ⟨rfl, rfl, rfl, rfl, rfl, rfl, trivial⟩ ?_
  refine vc_seq ?_
  refine vc_ifs rfl ?_ ?_
  · intro hc9
    try simp only [dn] at hc9
    obtain ⟨x, hx⟩ : ∃ x, es[j]? = some x := ⟨_, List.getElem?_eq_getElem (by omega)⟩
    have hkx := hok.2 j x hx
    have hz := mem_size hx
    have hz2 : szo x.kids < szo es := by have := szo_kids x; omega
    have stK := st
    obtain ⟨gb, go, rfl, hgS, hgl, hg⟩ := ExRow.at hQ (by omega)
    obtain ⟨o0, c0, hV0, hr0, hc⟩ := hg j x hx
    have st := stK
    clear stK
    refine vc_code_skip ?_
    refine vq_then ?_
    refine vc_keep [(1, _), (2, _), (6, _), (7, _), (8, _)] ⟨rfl, rfl, rfl, rfl, rfl, trivial⟩ ?_
    refine vc_seq ?_
    refine vc_block ?_
    refine vc_seq ?_
    refine vc_region ?_
    refine vc_y rfl rfl ((by exact y_ia (k := j) rfl rfl Tryd.underlying61 Tryd.sizeOf63 rfl (by omega))) ?_
    refine vc_y rfl rfl ((by exact y_ldca (exL x o0 c0) rfl Tryd.isAgg63 Tryd.sizeOf63 rfl (fun i v hi => st.chg.cell (hc i v hi) (by simp only [List.mem_singleton]; exact fun hh => hS (hh ▸ hgS))))) ?_
    refine vc_e (e_al (l := [_, _, _, _, _, _]) st rfl rfl Tryd.zeroValue63 rfl ?_)
    intro b5 w hb5 st
    refine vc_e (e_sts (vs := [_, _, _, _, _, _]) st 0 rfl rfl rfl rfl rfl Tryd.sizeOf63 rfl rfl (by first | (right; assumption) | (left; simp)) ?_)
    intro w st; dsimp only [setNth, wr] at st
    refine vc_end ?_
    refine vq_then ?_
    refine vc_keep [(1, _), (2, _), (5, _), (6, _), (7, _), (8, _)] ⟨rfl, rfl, rfl, rfl, rfl, rfl, trivial⟩ ?_
    refine vc_seq ?_
    refine vc_seq ?_
    refine vc_region ?_
    refine vc_y rfl rfl (y_fa0 rfl Tryd.underlying63 rfl rfl Tryd.sizeOf59 rfl) ?_
    refine vc_y rfl rfl ((by exact y_ld st 0 rfl Tryd.isAgg59 rfl rfl)) ?_
    refine vc_y rfl rfl (y_eqi rfl rfl) ?_
    refine vc_end ?_
    refine vq_then ?_
    refine vc_keep [(1, _), (2, _), (5, _), (6, _), (7, _), (8, _), (14, _)] ⟨rfl, rfl, rfl, rfl, rfl, rfl, rfl, trivial⟩ ?_
    refine vc_ifs rfl ?_ ?_
    · intro hc14
      try simp only [dn] at hc14
      refine vc_region ?_
      refine vc_y rfl rfl ((by exact y_ldc rfl Tryd.isAgg55 (cell_nth (st.res (i := 2) rfl).1.f rfl))) ?_
      refine vc_y rfl rfl ((by exact y_faz (k := 3) rfl Tryd.underlying63 rfl rfl Tryd.sizeOf9 rfl)) ?_
      refine vc_y rfl rfl ((by exact y_ld st 0 rfl Tryd.isAgg9 rfl rfl)) ?_
      refine vc_e (e_callv [_] rfl rfl rfl Tryd.call40 rfl (add_any e hd x.nm _ _ (st.res (i := 1) rfl).1 (st.res (i := 2) rfl).1) ?_)
      rintro _ w ⟨rfl, hm, hc⟩
      replace st := st.turn (i := 1) (r' := .tree [e.b] (fun w => MapK w e.b _)) rfl rfl rfl hc (by simp) ⟨hm, by simpa using hm.lt, Loc_MapK _ _⟩
      dsimp only [setNth] at st
      refine vc_end ?_
      refine vq_then ?_
      refine vc_keep [(1, _), (2, _), (5, _), (6, _), (7, _), (8, _)] ⟨rfl, rfl, rfl, rfl, rfl, rfl, trivial⟩ ?_
      refine vc_region ?_
      refine vc_y rfl rfl ((by exact y_ldc rfl Tryd.isAgg77 (cell_nth (st.res (i := 2) rfl).1.l rfl))) ?_
      refine vc_y rfl rfl ((by exact y_faz (k := 4) rfl Tryd.underlying63 rfl rfl Tryd.sizeOf61 rfl)) ?_
      refine vc_y rfl rfl ((by exact y_ld st 0 rfl Tryd.isAgg61 rfl rfl)) ?_
      refine vc_e (e_callv [_] rfl rfl rfl Tryd.call41 rfl (ih _ hz2 x.kids rfl hkx.kids _ _ _ _ (hr0.kept (Same.of_chg st.chg (fun b hb => by simp only [List.mem_singleton]; exact fun hh => hS (hh ▸ hb)))) (st.res (i := 1) rfl).1 (st.res (i := 2) rfl).1) ?_)
      rintro _ w ⟨rfl, hm, hc⟩
      replace st := st.turn (i := 1) (r' := .tree [e.b] (fun w => MapK w e.b _)) rfl rfl rfl hc (by simp) ⟨hm, by simpa using hm.lt, Loc_MapK _ _⟩
      dsimp only [setNth] at st
      refine vc_end ?_
      refine vq_block ?_
      refine vq_then ?_
      refine vc_keep [(1, _), (2, _), (6, _), (7, _), (8, _)] ⟨rfl, rfl, rfl, rfl, rfl, trivial⟩ ?_
      refine vc_region ?_
      refine vc_y rfl rfl (y_add rfl rfl (by omega : _ = ((j + 1 : Nat) : Int)) (by omega) (by omega)) ?_
      refine vc_y rfl rfl (y_mv rfl) ?_
      refine vc_end ?_
      refine vq_again (j + 1)  ⟨rfl, rfl, rfl, rfl, rfl, trivial⟩ (by rw [flat_step hx, nmsE_eq, if_pos (by simpa using hc14), ← List.append_assoc, addAll_app, addAll_app]; exact st.pick [1, 2] rfl (by decide)) ?_ ?_
      · omega
      · omega
    · intro hc14
      try simp only [dn] at hc14
      refine vc_code_skip ?_
      refine vq_then ?_
      refine vc_keep [(1, _), (2, _), (5, _), (6, _), (7, _), (8, _)] ⟨rfl, rfl, rfl, rfl, rfl, rfl, trivial⟩ ?_
      refine vc_region ?_
      refine vc_y rfl rfl ((by exact y_ldc rfl Tryd.isAgg77 (cell_nth (st.res (i := 2) rfl).1.l rfl))) ?_
      refine vc_y rfl rfl ((by exact y_faz (k := 4) rfl Tryd.underlying63 rfl rfl Tryd.sizeOf61 rfl)) ?_
      refine vc_y rfl rfl ((by exact y_ld st 0 rfl Tryd.isAgg61 rfl rfl)) ?_
      refine vc_e (e_callv [_] rfl rfl rfl Tryd.call41 rfl (ih _ hz2 x.kids rfl hkx.kids _ _ _ _ (hr0.kept (Same.of_chg st.chg (fun b hb => by simp only [List.mem_singleton]; exact fun hh => hS (hh ▸ hb)))) (st.res (i := 1) rfl).1 (st.res (i := 2) rfl).1) ?_)
      rintro _ w ⟨rfl, hm, hc⟩
      replace st := st.turn (i := 1) (r' := .tree [e.b] (fun w => MapK w e.b _)) rfl rfl rfl hc (by simp) ⟨hm, by simpa using hm.lt, Loc_MapK _ _⟩
      dsimp only [setNth] at st
      refine vc_end ?_
      refine vq_block ?_
      refine vq_then ?_
      refine vc_keep [(1, _), (2, _), (6, _), (7, _), (8, _)] ⟨rfl, rfl, rfl, rfl, rfl, trivial⟩ ?_
      refine vc_region ?_
      refine vc_y rfl rfl (y_add rfl rfl (by omega : _ = ((j + 1 : Nat) : Int)) (by omega) (by omega)) ?_
      refine vc_y rfl rfl (y_mv rfl) ?_
      refine vc_end ?_
      refine vq_again (j + 1)  ⟨rfl, rfl, rfl, rfl, rfl, trivial⟩ (by rw [flat_step hx, nmsE_eq, if_neg (by simpa using hc14), List.nil_append, addAll_app]; exact st.pick [1, 2] rfl (by decide)) ?_ ?_
      · omega
      · omega
  · intro hc9
    try simp only [dn] at hc9
    refine vc_exit ?_
    refine vq_then_exit ?_
    refine vq_then_exit ?_
    refine vq_block_exit ?_
    refine vq_ret0 (.inr rfl) Tryd.results41 ?_
    refine ⟨_, rfl, ?_⟩
    obtain rfl : j = es.length := by omega
    rw [List.take_length, ← nmsEs_flat] at st
    exact ⟨rfl, (st.res (i := 0) rfl).1, st.chg⟩

set_option maxHeartbeats 1000000 in
theorem nsl_any (e : NEnv) (hd : e.b ∉ e.E) (hS : ¬ S e.b) : ∀ (n : Nat) (es : List Sm), szo es = n → OkSs es → ∀ (oa : Option Addr) (cap : Nat) (ks : List Wd) (w : World), SmRow w S oa es → MapK w e.b ks → e.ins w →
    Ret Tryd.prog 42 ([] ++ [.slice oa es.length cap] ++ [e.pf, e.pe, e.ps]) w fun v w' => v = .tuple #[] ∧ MapK w' e.b (addAll (nmsSs es) ks) ∧ Chg [e.b] w w' := by
  intro n
  refine Nat.strongRecOn n fun n ih => ?_
  intro es hn hok oa cap ks w hQ hM hE
  subst hn
  have hn := hok.1
  refine ret_of [_, _, _, _] Tryd.func42 rfl Tryd.ntmps42 rfl ?_
  have st := St.init w [e.b]
  clear st
  obtain ⟨w0, rfl⟩ : ∃ w0, w0 = w := ⟨_, rfl⟩
  have st := st_names hM hE hd
  refine vc_seq ?_
  refine vc_region ?_
  refine vc_y rfl rfl (y_mv rfl) ?_
  refine vc_y rfl rfl (y_lensl rfl Tryd.underlying40) ?_
  refine vc_y rfl rfl (y_mv rfl) ?_
  refine vc_end ?_
  refine vq_then ?_
  refine vc_keep [(1, _), (2, _), (3, _), (7, _), (8, _), (9, _)] ⟨rfl, rfl, rfl, rfl, rfl, rfl, trivial⟩ ?_
  refine vc_block ?_
  refine vc_loop (w0 := w0) (M := [e.b]) (fun (j : Nat) => [(7, .slice oa es.length cap), (1, e.pf), (2, e.pe), (3, e.ps), (8, .int .i64 (es.length : Int)), (9, .int .i64 (j : Int))]) (fun j => [.tree [e.b] (fun w => MapK w e.b (addAll ((es.take j).flatMap nmsS) ks)), .tree e.E e.ins]) (fun j _ => j ≤ es.length) (fun j => es.length - j) 0 ⟨rfl, rfl, rfl, rfl, rfl, rfl, trivial⟩ st (by omega) ?_
  clear st
  rintro j w hj st
  refine vc_seq ?_
  refine vc_region ?_
  refine vc_y rfl rfl (y_lss rfl rfl) ?_
  refine vc_end ?_
  refine vq_then ?_
  refine vc_keep [(1, _), (2, _), (3, _), (7, _), (8, _), (9, _), (10, _)] ⟨rfl, rfl, rfl, rfl, rfl, rfl, rfl, trivial⟩ ?_
  refine vc_seq ?_
  refine vc_ifs rfl ?_ ?_
  · intro hc10
    try simp only [dn] at hc10
    obtain ⟨x, hx⟩ : ∃ x, es[j]? = some x := ⟨_, List.getElem?_eq_getElem (by omega)⟩
    have hkx := hok.2 j x hx
    have hz := mem_size hx
    have hzB : szo x.body < szo es := by have : szo x.body < szo x := by cases x; exact sm_size.1
                                         omega
    have hzL : szo x.els < szo es := by have : szo x.els < szo x := by cases x; exact sm_size.2
                                        omega
    have stK := st
    obtain ⟨gb, go, rfl, hgS, hgl, hg⟩ := SmRow.at hQ (by omega)
    obtain ⟨oe, ob, ol, ce, cb, cl, hV, hse, hsb, hsl, hc⟩ := hg j x hx
    have st := stK
    clear stK
    refine vc_code_skip ?_
    refine vq_then ?_
    refine vc_keep [(1, _), (2, _), (3, _), (7, _), (8, _), (9, _)] ⟨rfl, rfl, rfl, rfl, rfl, rfl, trivial⟩ ?_
    refine vc_seq ?_
    refine vc_block ?_
    refine vc_seq ?_
    refine vc_region ?_
    refine vc_y rfl rfl ((by exact y_ia (k := j) rfl rfl Tryd.underlying40 Tryd.sizeOf70 rfl (by omega))) ?_
    refine vc_y rfl rfl ((by exact y_ldca (smL x oe ob ol ce cb cl) rfl Tryd.isAgg70 Tryd.sizeOf70 rfl (fun i v hi => st.chg.cell (hc i v hi) (by simp only [List.mem_singleton]; exact fun hh => hS (hh ▸ hgS))))) ?_
    refine vc_e (e_al (l := [_, _, _, _, _, _, _]) st rfl rfl Tryd.zeroValue70 rfl ?_)
    intro b6 w hb6 st
    refine vc_e (e_sts (vs := [_, _, _, _, _, _, _]) st 0 rfl rfl rfl rfl rfl Tryd.sizeOf70 rfl rfl (by first | (right; assumption) | (left; simp)) ?_)
    intro w st; dsimp only [setNth, wr] at st
    refine vc_end ?_
    refine vq_then ?_
    refine vc_keep [(1, _), (2, _), (3, _), (6, _), (7, _), (8, _), (9, _)] ⟨rfl, rfl, rfl, rfl, rfl, rfl, rfl, trivial⟩ ?_
    refine vc_seq ?_
    refine vc_region ?_
    refine vc_y rfl rfl ((by exact y_ldc rfl Tryd.isAgg55 (cell_nth (st.res (i := 2) rfl).1.f rfl))) ?_
    refine vc_y rfl rfl ((by exact y_faz (k := 1) rfl Tryd.underlying70 rfl rfl Tryd.sizeOf9 rfl)) ?_
    refine vc_y rfl rfl ((by exact y_ld st 0 rfl Tryd.isAgg9 rfl rfl)) ?_
    refine vc_e (e_callv [_] rfl rfl rfl Tryd.call40 rfl (add_any e hd x.nm _ _ (st.res (i := 1) rfl).1 (st.res (i := 2) rfl).1) ?_)
    rintro _ w ⟨rfl, hm, hc⟩
    replace st := st.turn (i := 1) (r' := .tree [e.b] (fun w => MapK w e.b _)) rfl rfl rfl hc (by simp) ⟨hm, by simpa using hm.lt, Loc_MapK _ _⟩
    dsimp only [setNth] at st
    refine vc_end ?_
    refine vq_then ?_
    refine vc_keep [(1, _), (2, _), (3, _), (6, _), (7, _), (8, _), (9, _)] ⟨rfl, rfl, rfl, rfl, rfl, rfl, rfl, trivial⟩ ?_
    refine vc_seq ?_
    refine vc_region ?_
    refine vc_y rfl rfl ((by exact y_ldc rfl Tryd.isAgg55 (cell_nth (st.res (i := 2) rfl).1.f rfl))) ?_
    refine vc_y rfl rfl ((by exact y_faz (k := 2) rfl Tryd.underlying70 rfl rfl Tryd.sizeOf9 rfl)) ?_
    refine vc_y rfl rfl ((by exact y_ld st 0 rfl Tryd.isAgg9 rfl rfl)) ?_
    refine vc_e (e_callv [_] rfl rfl rfl Tryd.call40 rfl (add_any e hd x.other _ _ (st.res (i := 1) rfl).1 (st.res (i := 2) rfl).1) ?_)
    rintro _ w ⟨rfl, hm, hc⟩
    replace st := st.turn (i := 1) (r' := .tree [e.b] (fun w => MapK w e.b _)) rfl rfl rfl hc (by simp) ⟨hm, by simpa using hm.lt, Loc_MapK _ _⟩
    dsimp only [setNth] at st
    refine vc_end ?_
    refine vq_then ?_
    refine vc_keep [(1, _), (2, _), (3, _), (6, _), (7, _), (8, _), (9, _)] ⟨rfl, rfl, rfl, rfl, rfl, rfl, rfl, trivial⟩ ?_
    refine vc_seq ?_
    refine vc_region ?_
    refine vc_y rfl rfl ((by exact y_ldc rfl Tryd.isAgg77 (cell_nth (st.res (i := 2) rfl).1.l rfl))) ?_
    refine vc_y rfl rfl ((by exact y_faz (k := 3) rfl Tryd.underlying70 rfl rfl Tryd.sizeOf61 rfl)) ?_
    refine vc_y rfl rfl ((by exact y_ld st 0 rfl Tryd.isAgg61 rfl rfl)) ?_
    refine vc_e (e_callv [_] rfl rfl rfl Tryd.call41 rfl (nel_any e hd hS _ x.e rfl hkx.e _ _ _ _ (hse.kept (Same.of_chg st.chg (fun b hb => by simp only [List.mem_singleton]; exact fun hh => hS (hh ▸ hb)))) (st.res (i := 1) rfl).1 (st.res (i := 2) rfl).1) ?_)
    rintro _ w ⟨rfl, hm, hc⟩
    replace st := st.turn (i := 1) (r' := .tree [e.b] (fun w => MapK w e.b _)) rfl rfl rfl hc (by simp) ⟨hm, by simpa using hm.lt, Loc_MapK _ _⟩
    dsimp only [setNth] at st
    refine vc_end ?_
    refine vq_then ?_
    refine vc_keep [(1, _), (2, _), (3, _), (6, _), (7, _), (8, _), (9, _)] ⟨rfl, rfl, rfl, rfl, rfl, rfl, rfl, trivial⟩ ?_
    refine vc_seq ?_
    refine vc_region ?_
    refine vc_y rfl rfl ((by exact y_ldc rfl Tryd.isAgg78 (cell_nth (st.res (i := 2) rfl).1.s rfl))) ?_
    refine vc_y rfl rfl ((by exact y_faz (k := 4) rfl Tryd.underlying70 rfl rfl Tryd.sizeOf40 rfl)) ?_
    refine vc_y rfl rfl ((by exact y_ld st 0 rfl Tryd.isAgg40 rfl rfl)) ?_
    refine vc_e (e_callv [_] rfl rfl rfl Tryd.call42 rfl (ih _ hzB x.body rfl hkx.body _ _ _ _ (hsb.kept (Same.of_chg st.chg (fun b hb => by simp only [List.mem_singleton]; exact fun hh => hS (hh ▸ hb)))) (st.res (i := 1) rfl).1 (st.res (i := 2) rfl).1) ?_)
    rintro _ w ⟨rfl, hm, hc⟩
    replace st := st.turn (i := 1) (r' := .tree [e.b] (fun w => MapK w e.b _)) rfl rfl rfl hc (by simp) ⟨hm, by simpa using hm.lt, Loc_MapK _ _⟩
    dsimp only [setNth] at st
    refine vc_end ?_
    refine vq_then ?_
    refine vc_keep [(1, _), (2, _), (3, _), (6, _), (7, _), (8, _), (9, _)] ⟨rfl, rfl, rfl, rfl, rfl, rfl, rfl, trivial⟩ ?_
    refine vc_region ?_
    refine vc_y rfl rfl ((by exact y_ldc rfl Tryd.isAgg78 (cell_nth (st.res (i := 2) rfl).1.s rfl))) ?_
    refine vc_y rfl rfl ((by exact y_faz (k := 5) rfl Tryd.underlying70 rfl rfl Tryd.sizeOf40 rfl)) ?_
    refine vc_y rfl rfl ((by exact y_ld st 0 rfl Tryd.isAgg40 rfl rfl)) ?_
    refine vc_e (e_callv [_] rfl rfl rfl Tryd.call42 rfl (ih _ hzL x.els rfl hkx.els _ _ _ _ (hsl.kept (Same.of_chg st.chg (fun b hb => by simp only [List.mem_singleton]; exact fun hh => hS (hh ▸ hb)))) (st.res (i := 1) rfl).1 (st.res (i := 2) rfl).1) ?_)
    rintro _ w ⟨rfl, hm, hc⟩
    replace st := st.turn (i := 1) (r' := .tree [e.b] (fun w => MapK w e.b _)) rfl rfl rfl hc (by simp) ⟨hm, by simpa using hm.lt, Loc_MapK _ _⟩
    dsimp only [setNth] at st
    refine vc_end ?_
    refine vq_block ?_
    refine vq_then ?_
    refine vc_keep [(1, _), (2, _), (3, _), (7, _), (8, _), (9, _)] ⟨rfl, rfl, rfl, rfl, rfl, rfl, trivial⟩ ?_
    refine vc_region ?_
    refine vc_y rfl rfl (y_add rfl rfl (by omega : _ = ((j + 1 : Nat) : Int)) (by omega) (by omega)) ?_
    refine vc_y rfl rfl (y_mv rfl) ?_
    refine vc_end ?_
    refine vq_again (j + 1)  ⟨rfl, rfl, rfl, rfl, rfl, rfl, trivial⟩ (by rw [flat_step hx, nmsS_eq, addAll_app, addAll_app, addAll_app, addAll_app]; exact st.pick [1, 2] rfl (by decide)) ?_ ?_
    · omega
    · omega
  · intro hc10
    try simp only [dn] at hc10
    refine vc_exit ?_
    refine vq_then_exit ?_
    refine vq_then_exit ?_
    refine vq_block_exit ?_
    refine vq_ret0 (.inr rfl) Tryd.results42 ?_
    refine ⟨_, rfl, ?_⟩
    obtain rfl : j = es.length := by omega
    rw [List.take_length, ← nmsSs_flat] at st
    exact ⟨rfl, (st.res (i := 0) rfl).1, st.chg⟩

end
end Go.Proofs.YtnmhlpnapgojjaaDoor


namespace Go.Proofs.YtnmhlpnapgojjaaDoor
open Go.RowKit Sx LexS
set_option linter.unusedVariables false
set_option linter.unusedSimpArgs false
abbrev ExRQ := ExR 63
abbrev SmRQ := SmR 63 70
abbrev DcRQ := DcR 67
abbrev ThRQ := ThR 63 70 67 42
abbrev PgQ := PgS 63 70 67 42
theorem Tryd.info67 : Tryd.prog.info? 67 = some Tryd.t67 := by kernel_rfl
theorem Tryd.info63 : Tryd.prog.info? 63 = some Tryd.t63 := by kernel_rfl
theorem Tryd.info70 : Tryd.prog.info? 70 = some Tryd.t70 := by kernel_rfl
theorem Tryd.info42 : Tryd.prog.info? 42 = some Tryd.t42 := by kernel_rfl
theorem take_snoc {α : Type} {l : List α} {j : Nat} {x : α} (h : l[j]? = some x) : l.take (j + 1) = l.take j ++ [x] := by
  obtain ⟨hj, e⟩ := List.getElem?_eq_some_iff.1 h
  rw [List.take_succ_eq_append_getElem hj, e]
section
variable {n0 : Nat}

end
end Go.Proofs.YtnmhlpnapgojjaaDoor


namespace Go.Proofs.YtnmhlpnapgojjaaDoor
open Go.RowKit Sx LexS
set_option linter.unusedVariables false
set_option linter.unusedSimpArgs false
theorem zeroCells_len (z : Array Value) (n : Nat) : (Builtin.zeroCells z n).size = n * z.size := by simp [Builtin.zeroCells]
section
variable {P : Program} {n : Fr} {L : List Oper} {Q : Exit → Act → World → Prop} {kn : Kn} {w0 w : World} {M : List Nat} {hs : List Res} {N : Act → World → Prop}
variable {d ty : Nat} {pos : String} {aft : Array Edge} {g : Option (Nat × Bool)}
/-- room for 'k' more on nothing -/
theorem e_appz (st : St w0 M hs w) {T U E size bytes k : Nat} {x y : Operand} {z : Value} {kk : Int} {ti : TypeInfo} (hw : gd L kn g = some true) (hd : okDst n (some d) = true)
    (hx : evO kn x = some (.slice none 0 0)) (hy : evO kn y = some (.int .i64 kk)) (hkk : kk = (k : Int)) (h0 : 0 < k)
    (ht : P.underlying T = some (.slice E)) (hu : P.underlying U = some (.int .i64)) (hinfo : P.info? E = some ti) (hz : ti.zero = some z) (hsize : ti.size = size) (hby : ti.bytes = bytes) (hzs : z.cells.size = size) (hsz : Nat.blt 0 size = true) (hb0 : Nat.blt 0 bytes = true)
    (hk : k * bytes ≤ 140737488355328)
    (next : ∀ b cap w', k ≤ cap → w0.heap.size ≤ b → St w0 M (.own (.slice (some ⟨b, 0, none⟩) 0 cap) E size 0 [] :: hs) w' → vN n N ((d, .slice (some ⟨b, 0, none⟩) k cap) :: kn) w') :
    vS P n L Q ⟨some d, .call ⟨.builtin .append, #[x, y], #[T, U]⟩, ty, pos, aft, g⟩ N kn w := by
  subst hkk hsize hby
  have hb0' : 0 < ti.bytes := by simpa [Nat.blt_eq] using hb0
  have hk1 : k ≤ k * ti.bytes := Nat.le_mul_of_pos_right k hb0'
  have hr := Lib.run_append_grow_zeros (P := P) w T U ty E ti z .i64 .i64 ht hu hinfo hz none 0 0 [] (run_firstCells_none w.drew ti.size 0 0 0) k h0 (by simpa [Nat.blt_eq] using hsz) (by omega) (by omega) (by omega)
    (growslice_fits (need := 0 + k) (old := 0) (by omega) (by rw [Nat.zero_add]; exact hk))
  have hge := grownCap_ge w (0 + k) 0 E
  have hle := grownCap_le_maxLen w (0 + k) 0 E (by unfold maxLen; omega)
  generalize grownCap w (0 + k) 0 E = cap at hr hge hle
  rw [Nat.zero_add] at hr hge
  obtain ⟨A, hA, hr⟩ : ∃ A : Array Value, A.size = cap * ti.size ∧ (Builtin.append_ #[T, U] ty #[.slice none 0 0, .int .i64 (k : Int)]).run P w = .ok (.slice (some ⟨w.heap.size, 0, none⟩) k cap) (w.drew.alloc (.cells A E)) := by
    refine ⟨_, ?_, hr⟩
    simp only [Array.size_append, zeroCells_len, hzs]
    rw [show ([] : List Value).toArray.size = 0 from rfl, Nat.zero_add, ← Nat.add_mul]
    congr 1; omega
  refine e_bi (w' := w.drew.alloc (.cells A E)) [.slice none 0 0, .int .i64 (k : Int)] hw hd (by simp [hx, hy]) (fun cs => ?_) (next w.heap.size cap _ hge st.chg.size (st.pushR (Chg.trans (Chg.drew w) (Chg.alloc w.drew _)) ⟨by simp, .inr ⟨w.heap.size, cap, A, rfl, st.chg.size, heap_alloc w.drew _, by omega, hle, hA, by simp⟩⟩ (by simp [Res.at?, Value.ownBlock])))
  simp only [builtin, Sem.run_bind, List.toArray, hr]
  rfl
end
theorem own_up {w : World} {a b E s n : Nat} {v : Value} {xs : List Value} (h : w.ownsRow a E s v n xs) (hab : b ≤ a) : w.ownsRow b E s v n xs :=
  ⟨h.1, h.2.imp id fun ⟨g, cap, cur, h1, h2, h3⟩ => ⟨g, cap, cur, h1, Nat.le_trans hab h2, h3⟩⟩
theorem own_ge {w : World} {a E s n : Nat} {v : Value} {xs : List Value} (h : w.ownsRow a E s v n xs) : ∀ k ∈ v.ownBlock.toList, a ≤ k := by
  rcases h.2 with ⟨rfl, _⟩ | ⟨g, cap, cur, rfl, h2, _⟩
  · simp [Value.ownBlock]
  · simpa [Value.ownBlock] using h2
abbrev slV (x : Option Addr × List Dc × Nat) : Value := .slice x.1 x.2.1.length x.2.2
abbrev DsF (xs : List (Option Addr × List Dc × Nat)) : List Dc := xs.flatMap fun x => x.2.1
theorem dsF_step {xs : List (Option Addr × List Dc × Nat)} {j : Nat} {x} (hx : xs[j]? = some x) : DsF (xs.take (j + 1)) = DsF (xs.take j) ++ x.2.1 := by
  obtain ⟨hj, e⟩ := List.getElem?_eq_some_iff.1 hx
  simp only [DsF]
  rw [List.take_succ_eq_append_getElem hj, e, List.flatMap_append]; simp
theorem dsF_le (xs : List (Option Addr × List Dc × Nat)) (j : Nat) : (DsF (xs.take j)).length ≤ (DsF xs).length := by
  have : DsF xs = DsF (xs.take j) ++ DsF (xs.drop j) := by rw [DsF, DsF, DsF, ← List.flatMap_append, List.take_append_drop]
  rw [this]; simp

theorem growD_any (k : Nat) (hk : k ≤ 4398046511104) (w : World) :
    Ret Tryd.prog 74 [.slice none 0 0, .int .i64 (k : Int)] w fun v w' => ∃ oa cap, v = .slice oa 0 cap ∧ w'.ownsRow w.heap.size 67 3 (.slice oa 0 cap) 0 [] ∧ Chg [] w w' := by
  refine ret_of [_, _] Tryd.func74 rfl Tryd.ntmps74 rfl ?_
  have st := St.init w []
  obtain ⟨w0, rfl⟩ : ∃ w0, w0 = w := ⟨_, rfl⟩
  refine vc_seq ?_
  refine vc_region ?_
  refine vc_y rfl rfl (y_as rfl) ?_
  refine vc_end ?_
  refine vq_then ?_
  refine vc_keep [(0, _), (1, _)] ⟨rfl, rfl, trivial⟩ ?_
  refine vc_seq ?_
  refine vc_seq ?_
  refine vc_region ?_
  refine vc_y rfl rfl (y_mv rfl) ?_
  refine vc_y rfl rfl (y_lss rfl rfl) ?_
  refine vc_end ?_
  refine vq_then ?_
  refine vc_keep [(0, _), (1, _), (6, _)] ⟨rfl, rfl, rfl, trivial⟩ ?_
  refine vc_ifs rfl ?_ ?_
  · intro hc6
    exfalso; revert hc6; simp
  · intro hc6
    try simp only [dn] at hc6
    refine vc_code_skip ?_
    refine vq_then ?_
    refine vc_keep [(0, _), (1, _)] ⟨rfl, rfl, trivial⟩ ?_
    refine vc_seq ?_
    refine vc_seq ?_
    refine vc_region ?_
    refine vc_y rfl rfl (y_mv rfl) ?_
    refine vc_y rfl rfl (y_mv rfl) ?_
    refine vc_y rfl rfl (y_caps rfl Tryd.underlying22) ?_
    refine vc_y rfl rfl (y_mv rfl) ?_
    refine vc_y rfl rfl (y_lensl rfl Tryd.underlying22) ?_
    refine vc_y rfl rfl (y_sub rfl rfl rfl (by omega) (by omega)) ?_
    refine vc_y rfl rfl (y_sub rfl rfl rfl (by omega) (by omega)) ?_
    refine vc_y rfl rfl (y_as rfl) ?_
    refine vc_end ?_
    refine vq_then ?_
    refine vc_keep [(0, _), (1, _)] ⟨rfl, rfl, trivial⟩ ?_
    refine vc_seq ?_
    refine vc_region ?_
    refine vc_y rfl rfl (y_mv rfl) ?_
    refine vc_y rfl rfl (y_gtr rfl rfl) ?_
    refine vc_end ?_
    refine vq_then ?_
    refine vc_keep [(0, _), (1, _), (16, _)] ⟨rfl, rfl, rfl, trivial⟩ ?_
    refine vc_ifs rfl ?_ ?_
    · intro hc16
      try simp only [dn] at hc16
      refine vc_region ?_
      refine vc_y rfl rfl (y_mv rfl) ?_
      refine vc_y rfl rfl (y_mv rfl) ?_
      refine vc_y rfl rfl (y_caps rfl Tryd.underlying22) ?_
      refine vc_y rfl rfl (y_slh (j := 0) rfl rfl Tryd.underlying22 Tryd.sizeOf67 rfl (by omega)) ?_
      refine vc_y rfl rfl (y_mv rfl) ?_
      refine vc_e (e_appz st (k := k) (bytes := 32) rfl rfl rfl rfl (by omega) (by omega) Tryd.underlying22 Tryd.underlying3 Tryd.info67 rfl rfl rfl rfl rfl rfl (by omega) ?_)
      intro b22 cap22 w hc22 hb22 st
      refine vc_y rfl rfl (y_mv rfl) ?_
      refine vc_y rfl rfl (y_lensl rfl Tryd.underlying22) ?_
      refine vc_y rfl rfl (y_slh (j := 0) rfl rfl Tryd.underlying22 Tryd.sizeOf67 rfl (by omega)) ?_
      refine vc_y rfl rfl (y_as rfl) ?_
      refine vc_end ?_
      refine vq_then ?_
      refine vc_keep [(0, _)] ⟨rfl, trivial⟩ ?_
      refine vc_seq ?_
      refine vc_region ?_
      refine vc_y rfl rfl (y_mv rfl) ?_
      refine vc_y rfl rfl (y_as rfl) ?_
      refine vc_end ?_
      refine vq_then ?_
      refine vc_keep [(4, _)] ⟨rfl, trivial⟩ ?_
      refine vc_ret ?_
      refine vq_ret1 st (.inl rfl) Tryd.results74 (.tmp rfl) ?_
      refine ⟨_, rfl, ?_⟩
      exact ⟨_, _, rfl, st.res (i := 0) rfl, st.chg⟩
    · intro hc16
      try simp only [dn] at hc16
      refine vc_code_skip ?_
      refine vq_then ?_
      refine vc_keep [(0, _)] ⟨rfl, trivial⟩ ?_
      refine vc_seq ?_
      refine vc_region ?_
      refine vc_y rfl rfl (y_mv rfl) ?_
      refine vc_y rfl rfl (y_as rfl) ?_
      refine vc_end ?_
      refine vq_then ?_
      refine vc_keep [(4, _)] ⟨rfl, trivial⟩ ?_
      refine vc_ret ?_
      refine vq_ret1 st (.inl rfl) Tryd.results74 (.tmp rfl) ?_
      refine ⟨_, rfl, ?_⟩
      exact ⟨_, _, rfl, ⟨by simp, .inl ⟨rfl, rfl⟩⟩, st.chg⟩

set_option maxHeartbeats 1000000 in
theorem concatD_any {S : Nat → Prop} (xs : List (Option Addr × List Dc × Nat)) (hn : (DsF xs).length ≤ 4398046511104) (hxl : xs.length ≤ 1024) (b c : Nat) (w : World) (hb : ∀ j x, xs[j]? = some x → w.cell? ⟨b, j * 1, none⟩ = some (slV x)) (hr : ∀ (j : Nat) x, xs[j]? = some x → DcRow w S x.1 x.2.1) :
    Ret Tryd.prog 43 [.slice (some ⟨b, 0, none⟩) xs.length c] w fun v w' => ∃ oa cap Sq, v = .slice oa (DsF xs).length cap ∧ DcRQ w' oa cap (DsF xs) Sq ∧ Nw w.heap.size Sq ∧ Chg [] w w' := by
  refine ret_of [_] Tryd.func43 rfl Tryd.ntmps43 rfl ?_
  have st := St.init w []
  obtain ⟨w0, rfl⟩ : ∃ w0, w0 = w := ⟨_, rfl⟩
  refine vc_seq ?_
  refine vc_region ?_
  refine vc_y rfl rfl (y_as rfl) ?_
  refine vc_end ?_
  refine vq_then ?_
  refine vc_keep [(0, _)] ⟨rfl, trivial⟩ ?_
  refine vc_seq ?_
  refine vc_region ?_
  refine vc_y rfl rfl (y_as rfl) ?_
  refine vc_end ?_
  refine vq_then ?_
  refine vc_keep [(0, _), (3, _)] ⟨rfl, rfl, trivial⟩ ?_
  refine vc_seq ?_
  refine vc_seq ?_
  refine vc_region ?_
  refine vc_y rfl rfl (y_mv rfl) ?_
  refine vc_y rfl rfl (y_lensl rfl Tryd.underlying98) ?_
  refine vc_y rfl rfl (y_mv rfl) ?_
  refine vc_end ?_
  refine vq_then ?_
  refine vc_keep [(0, _), (3, _), (9, _), (10, _), (11, _)] ⟨rfl, rfl, rfl, rfl, rfl, trivial⟩ ?_
  refine vc_block ?_
  refine vc_loop (w0 := w0) (M := []) (fun (j : Nat) => [(0, .slice (some ⟨b, 0, none⟩) xs.length c), (3, .int .i64 ((DsF (xs.take j)).length : Int)), (9, .slice (some ⟨b, 0, none⟩) xs.length c), (10, .int .i64 (xs.length : Int)), (11, .int .i64 (j : Int))]) (fun _ => []) (fun j _ => j ≤ xs.length) (fun j => xs.length - j) 0 ⟨rfl, rfl, rfl, rfl, rfl, trivial⟩ st (by omega) ?_
  clear st
  rintro j w hj st
  refine vc_seq ?_
  refine vc_region ?_
  refine vc_y rfl rfl (y_lss rfl rfl) ?_
  refine vc_end ?_
  refine vq_then ?_
  refine vc_keep [(0, _), (3, _), (9, _), (10, _), (11, _), (12, _)] ⟨rfl, rfl, rfl, rfl, rfl, rfl, trivial⟩ ?_
  refine vc_seq ?_
  refine vc_ifs rfl ?_ ?_
  · intro hc12
    try simp only [dn] at hc12
    obtain ⟨x, hx⟩ : ∃ x, xs[j]? = some x := ⟨_, List.getElem?_eq_getElem (by omega)⟩
    have hle := dsF_le xs (j + 1)
    rw [dsF_step hx, List.length_append] at hle
    refine vc_code_skip ?_
    refine vq_then ?_
    refine vc_keep [(0, _), (3, _), (9, _), (10, _), (11, _)] ⟨rfl, rfl, rfl, rfl, rfl, trivial⟩ ?_
    refine vc_seq ?_
    refine vc_block ?_
    refine vc_seq ?_
    refine vc_region ?_
    refine vc_y rfl rfl ((by exact y_ia0 (k := j) rfl rfl Tryd.underlying98 Tryd.sizeOf22 rfl (by omega))) ?_
    refine vc_y rfl rfl ((by exact y_ldc rfl Tryd.isAgg22 (st.chg.cell (hb j x hx) (by simp)))) ?_
    refine vc_y rfl rfl (y_as rfl) ?_
    refine vc_end ?_
    refine vq_then ?_
    refine vc_keep [(0, _), (3, _), (5, _), (9, _), (10, _), (11, _)] ⟨rfl, rfl, rfl, rfl, rfl, rfl, trivial⟩ ?_
    refine vc_seq ?_
    refine vc_region ?_
    refine vc_y rfl rfl (y_mv rfl) ?_
    refine vc_y rfl rfl (y_mv rfl) ?_
    refine vc_y rfl rfl (y_lensl rfl Tryd.underlying22) ?_
    refine vc_y rfl rfl (y_add rfl rfl (by rw [dsF_step hx, List.length_append]; omega : _ = ((DsF (xs.take (j + 1))).length : Int)) (by rw [dsF_step hx, List.length_append]; omega) (by rw [dsF_step hx, List.length_append]; omega)) ?_
    refine vc_y rfl rfl (y_as rfl) ?_
    refine vc_end ?_
    refine vq_then ?_
    refine vc_keep [(0, _), (3, _), (9, _), (10, _), (11, _)] ⟨rfl, rfl, rfl, rfl, rfl, trivial⟩ ?_
    refine vc_seq ?_
    refine vc_region ?_
    refine vc_y rfl rfl (y_mv rfl) ?_
    refine vc_y rfl rfl (y_lss rfl rfl) ?_
    refine vc_end ?_
    refine vq_then ?_
    refine vc_keep [(0, _), (3, _), (9, _), (10, _), (11, _), (20, _)] ⟨rfl, rfl, rfl, rfl, rfl, rfl, trivial⟩ ?_
    refine vc_ifs rfl ?_ ?_
    · intro hc20
      exfalso; revert hc20; simp
    · intro hc20
      try simp only [dn] at hc20
      refine vc_code_skip ?_
      refine vq_block ?_
      refine vq_then ?_
      refine vc_keep [(0, _), (3, _), (9, _), (10, _), (11, _)] ⟨rfl, rfl, rfl, rfl, rfl, trivial⟩ ?_
      refine vc_region ?_
      refine vc_y rfl rfl (y_add rfl rfl (by omega : _ = ((j + 1 : Nat) : Int)) (by omega) (by omega)) ?_
      refine vc_y rfl rfl (y_mv rfl) ?_
      refine vc_end ?_
      refine vq_again (j + 1)  ⟨rfl, rfl, rfl, rfl, rfl, trivial⟩ st ?_ ?_
      · omega
      · omega
  · intro hc12
    try simp only [dn] at hc12
    obtain rfl : j = xs.length := by omega
    rw [List.take_length]
    refine vc_exit ?_
    refine vq_then_exit ?_
    refine vq_then_exit ?_
    refine vq_block_exit ?_
    refine vq_then ?_
    refine vc_keep [(0, _), (3, _)] ⟨rfl, rfl, trivial⟩ ?_
    refine vc_seq ?_
    refine vc_region ?_
    refine vc_y rfl rfl (y_mv rfl) ?_
    refine vc_e (e_call [_, _] rfl rfl Tryd.call74 rfl (growD_any (DsF xs).length hn _) ?_)
    rintro _ w ⟨oa0, cap0, rfl, ho, hc⟩
    replace st := st.pushR (r := .own (.slice oa0 0 cap0) 67 3 0 []) hc (own_up ho st.chg.size) (own_ge ho)
    refine vc_y rfl rfl (y_as rfl) ?_
    refine vc_end ?_
    refine vq_then ?_
    refine vc_keep [(0, _), (6, _)] ⟨rfl, rfl, trivial⟩ ?_
    refine vc_seq ?_
    refine vc_seq ?_
    refine vc_region ?_
    refine vc_y rfl rfl (y_mv rfl) ?_
    refine vc_y rfl rfl (y_lensl rfl Tryd.underlying98) ?_
    refine vc_y rfl rfl (y_mv rfl) ?_
    refine vc_end ?_
    refine vq_then ?_
    refine vc_keep [(6, _), (25, _), (26, _), (27, _)] ⟨rfl, rfl, rfl, rfl, trivial⟩ ?_
    refine vc_block ?_
    refine vc_loop (w0 := w0) (M := []) (fun (z : Nat × Option Addr × Nat) => [(6, .slice z.2.1 (DsF (xs.take z.1)).length z.2.2), (25, .slice (some ⟨b, 0, none⟩) xs.length c), (26, .int .i64 (xs.length : Int)), (27, .int .i64 (z.1 : Int))]) (fun z => [.own (.slice z.2.1 (DsF (xs.take z.1)).length z.2.2) 67 3 (DsF (xs.take z.1)).length ((DsF (xs.take z.1)).flatMap dcL)]) (fun z _ => z.1 ≤ xs.length) (fun z => xs.length - z.1) (0, oa0, cap0) ⟨rfl, rfl, rfl, rfl, trivial⟩ st (by omega) ?_
    clear st
    rintro ⟨j, o1, c1⟩ w hj st
    dsimp only at *
    refine vc_seq ?_
    refine vc_region ?_
    refine vc_y rfl rfl (y_lss rfl rfl) ?_
    refine vc_end ?_
    refine vq_then ?_
    refine vc_keep [(6, _), (25, _), (26, _), (27, _), (28, _)] ⟨rfl, rfl, rfl, rfl, rfl, trivial⟩ ?_
    refine vc_seq ?_
    refine vc_ifs rfl ?_ ?_
    · intro hc28
      try simp only [dn] at hc28
      obtain ⟨x, hx⟩ : ∃ x, xs[j]? = some x := ⟨_, List.getElem?_eq_getElem (by omega)⟩
      have hle := dsF_le xs (j + 1)
      rw [dsF_step hx, List.length_append] at hle
      refine vc_code_skip ?_
      refine vq_then ?_
      refine vc_keep [(6, _), (25, _), (26, _), (27, _)] ⟨rfl, rfl, rfl, rfl, trivial⟩ ?_
      refine vc_seq ?_
      refine vc_block ?_
      refine vc_seq ?_
      refine vc_region ?_
      refine vc_y rfl rfl ((by exact y_ia0 (k := j) rfl rfl Tryd.underlying98 Tryd.sizeOf22 rfl (by omega))) ?_
      refine vc_y rfl rfl ((by exact y_ldc rfl Tryd.isAgg22 (st.chg.cell (hb j x hx) (by simp)))) ?_
      refine vc_y rfl rfl (y_as rfl) ?_
      refine vc_end ?_
      refine vq_then ?_
      refine vc_keep [(6, _), (8, _), (25, _), (26, _), (27, _)] ⟨rfl, rfl, rfl, rfl, rfl, trivial⟩ ?_
      refine vc_region ?_
      refine vc_y rfl rfl (y_mv rfl) ?_
      refine vc_y rfl rfl (y_mv rfl) ?_
      refine vc_e (e_appr (bytes := 32) (len' := (DsF (xs.take (j + 1))).length) (ys := (DsF (xs.take (j + 1))).flatMap dcL) st 0 rfl rfl rfl rfl rfl (DcRow.rd (RowC.kept (hr j x hx) (Same.of_nil st.chg))) Tryd.underlying22 Tryd.info67 rfl rfl rfl rfl rfl (dcs_len x.2.1) (dcs_one x.2.1) (by unfold maxLen; omega) (by omega) (by rw [dsF_step hx, List.length_append]) (by rw [dsF_step hx, List.flatMap_append]) ?_)
      intro o33 c33 w st; dsimp only [setNth] at st
      refine vc_y rfl rfl (y_as rfl) ?_
      refine vc_end ?_
      refine vq_block ?_
      refine vq_then ?_
      refine vc_keep [(6, _), (25, _), (26, _), (27, _)] ⟨rfl, rfl, rfl, rfl, trivial⟩ ?_
      refine vc_region ?_
      refine vc_y rfl rfl (y_add rfl rfl (by omega : _ = ((j + 1 : Nat) : Int)) (by omega) (by omega)) ?_
      refine vc_y rfl rfl (y_mv rfl) ?_
      refine vc_end ?_
      refine vq_again (j + 1, o33, c33)  ⟨rfl, rfl, rfl, rfl, trivial⟩ st ?_ ?_
      · dsimp only; omega
      · dsimp only; omega
    · intro hc28
      try simp only [dn] at hc28
      obtain rfl : j = xs.length := by omega
      rw [List.take_length] at st ⊢
      refine vc_exit ?_
      refine vq_then_exit ?_
      refine vq_then_exit ?_
      refine vq_block_exit ?_
      refine vq_then ?_
      refine vc_keep [(6, _)] ⟨rfl, trivial⟩ ?_
      refine vc_seq ?_
      refine vc_region ?_
      refine vc_y rfl rfl (y_mv rfl) ?_
      refine vc_y rfl rfl (y_as rfl) ?_
      refine vc_end ?_
      refine vq_then ?_
      refine vc_keep [(2, _)] ⟨rfl, trivial⟩ ?_
      refine vc_ret ?_
      refine vq_ret1 st (.inl rfl) Tryd.results43 (.tmp rfl) ?_
      refine ⟨_, rfl, ?_⟩
      exact ⟨o1, c1, _, rfl, ⟨(st.ownNw (i := 0) rfl).1, rfl⟩, (st.ownNw (i := 0) rfl).2, st.chg⟩

end Go.Proofs.YtnmhlpnapgojjaaDoor


namespace Go.Proofs.YtnmhlpnapgojjaaDoor
open Go.RowKit Sx LexS
set_option linter.unusedVariables false
set_option linter.unusedSimpArgs false
abbrev sortW (l : List Wd) : List Wd := l.mergeSort (fun x y => decide (x ≤ y))
theorem sort_any (base : Nat) (ss : List Wd) (oa : Option Addr) (cap : Nat) (w : World) (hn : ss.length ≤ 4398046511104) (ho : w.ownsRow base 9 1 (.slice oa ss.length cap) ss.length (ss.map str)) :
    Ret Tryd.prog 44 [.slice oa ss.length cap] w fun v w' => v = .tuple #[] ∧ w'.ownsRow base 9 1 (.slice oa ss.length cap) ss.length ((sortW ss).map str) ∧ Chg (Value.slice oa ss.length cap).ownBlock.toList w w' := by
  rcases ho.2 with ⟨hnil, h0⟩ | ⟨g, cap', cur, hv, hbase, hb, h1, h2, h3, h4⟩
  · have hs : ss = [] := List.length_eq_zero_iff.1 h0
    subst hs
    refine (Tryd.slices_Sort_string_none oa cap w).mono ?_
    rintro e w' ⟨rfl, rfl⟩
    exact ⟨_, rfl, rfl, by simpa [sortW] using ho, Chg.refl _ _⟩
  · simp only [Value.slice.injEq] at hv
    obtain ⟨rfl, -, rfl⟩ := hv
    refine (Tryd.slices_Sort_string g 0 cap ss w (holds_of_block hb (by simpa using h4)) (Array.getElem?_eq_some_iff.1 hb).1 (by omega)).mono ?_
    rintro e w' ⟨rfl, n, os, rfl⟩
    exact ⟨_, rfl, rfl, ownsRow_sorted (by simp [sortW]) hbase hb h1 h2 h3, Chg.of_grownBy (grownBy_sorted _)⟩
end Go.Proofs.YtnmhlpnapgojjaaDoor


namespace Go.Proofs.YtnmhlpnapgojjaaDoor
open Go.RowKit Sx LexS
set_option linter.unusedVariables false
set_option linter.unusedSimpArgs false
/-- the keys behind the declarations -/
abbrev kD (p : Pg) : List Wd := addAll ((p.shared ++ p.locks).map (·.nm)) []
abbrev kT (p : Pg) (j : Nat) : List Wd := addAll ((p.threads.take j).flatMap nmsT) (kD p)
abbrev kAll (p : Pg) : List Wd := addAll (nmsP p) []
theorem kT_all (p : Pg) : kT p p.threads.length = kAll p := by rw [kT, List.take_length, kD, kAll, nmsP, addAll_app]
theorem sort_perm {p : Pg} {l : List Wd} (h : l.Perm (kAll p)) : sortW l = namesL p := mergeSort_of_perm h
theorem addAll_len (l : List Wd) : ∀ ks : List Wd, (addAll l ks).length ≤ l.length + ks.length := by
  induction l with
  | nil => intro ks; simp [addAll_nil]
  | cons s r ih =>
    intro ks
    have h1 : (addK s ks).length ≤ ks.length + 1 := by unfold addK insK; split <;> (try split) <;> simp
    have := ih (addK s ks)
    rw [addAll_cons]; simp; omega

set_option maxHeartbeats 4000000 in
theorem names_any {S : Nat → Prop} (p : Pg) (hok : OkP p) (os ol ot : Option Addr) (cs cl ct : Nat) (w : World) (hS : ∀ b, S b → b < w.heap.size) (hSh : DcRow w S os p.shared) (hL : DcRow w S ol p.locks) (hT : ThRow w S ot p.threads) (hlen : (nmsP p).length ≤ 4398046511104) :
    Ret Tryd.prog 15 [.agg (pgL p os ol ot cs cl ct).toArray] w fun v w' => ∃ oa cap, v = .slice oa (namesL p).length cap ∧ w'.ownsRow w.heap.size 9 1 (.slice oa (namesL p).length cap) (namesL p).length ((namesL p).map str) ∧ Chg [] w w' := by
  refine ret_of [_] Tryd.func15 rfl Tryd.ntmps15 rfl ?_
  have st := St.init w []
  obtain ⟨w0, rfl⟩ : ∃ w0, w0 = w := ⟨_, rfl⟩
  have hn1 := hok.1.1
  have hn2 := hok.2.1.1
  have hn3 := hok.2.2.1
  have hnn : (p.shared ++ p.locks).length ≤ 2199023255552 := by rw [List.length_append]; omega
  refine vc_seq ?_
  refine vc_region ?_
  refine vc_e (e_bx (l := [_, _, _]) st rfl rfl rfl rfl ?_)
  intro b1 w hb1 st
  refine vc_y rfl rfl (y_as rfl) ?_
  refine vc_end ?_
  refine vq_then ?_
  refine vc_keep [(1, _)] ⟨rfl, trivial⟩ ?_
  refine vc_seq ?_
  refine vc_region ?_
  refine vc_e (e_mkm st rfl rfl ?_)
  intro b15 w hb15 st
  refine vc_e (e_al (l := [_]) st rfl rfl Tryd.zeroValue76 rfl ?_)
  intro b3 w hb3 st
  refine vc_e (e_st st 0 rfl rfl rfl rfl Tryd.sizeOf76 rfl rfl (by first | (right; assumption) | (left; simp)) ?_)
  intro w st; dsimp only [setNth, wr] at st
  refine vc_end ?_
  refine vq_then ?_
  refine vc_keep [(1, _), (3, _)] ⟨rfl, rfl, trivial⟩ ?_
  refine vc_seq ?_
  refine vc_region ?_
  refine vc_y rfl rfl (y_mf [] [_] rfl rfl) ?_
  refine vc_e (e_al (l := [_]) st rfl rfl Tryd.zeroValue55 rfl ?_)
  intro b4 w hb4 st
  refine vc_e (e_st st 0 rfl rfl rfl rfl Tryd.sizeOf55 rfl rfl (by first | (right; assumption) | (left; simp)) ?_)
  intro w st; dsimp only [setNth, wr] at st
  refine vc_end ?_
  refine vq_then ?_
  refine vc_keep [(1, _), (3, _), (4, _)] ⟨rfl, rfl, rfl, trivial⟩ ?_
  refine vc_seq ?_
  refine vc_region ?_
  refine vc_e (e_al (l := [_]) st rfl rfl Tryd.zeroValue77 rfl ?_)
  intro b5 w hb5 st
  refine vc_end ?_
  refine vq_then ?_
  refine vc_keep [(1, _), (3, _), (4, _), (5, _)] ⟨rfl, rfl, rfl, rfl, trivial⟩ ?_
  refine vc_seq ?_
  refine vc_region ?_
  refine vc_y rfl rfl (y_mf [] [_, _] rfl rfl) ?_
  refine vc_e (e_st st 0 rfl rfl rfl rfl Tryd.sizeOf77 rfl rfl (by first | (right; assumption) | (left; simp)) ?_)
  intro w st; dsimp only [setNth, wr] at st
  refine vc_end ?_
  refine vq_then ?_
  refine vc_keep [(1, _), (3, _), (4, _), (5, _)] ⟨rfl, rfl, rfl, rfl, trivial⟩ ?_
  refine vc_seq ?_
  refine vc_region ?_
  refine vc_e (e_al (l := [_]) st rfl rfl Tryd.zeroValue78 rfl ?_)
  intro b6 w hb6 st
  refine vc_end ?_
  refine vq_then ?_
  refine vc_keep [(1, _), (3, _), (4, _), (5, _), (6, _)] ⟨rfl, rfl, rfl, rfl, rfl, trivial⟩ ?_
  refine vc_seq ?_
  refine vc_region ?_
  refine vc_y rfl rfl (y_mf [] [_, _, _] rfl rfl) ?_
  refine vc_e (e_st st 0 rfl rfl rfl rfl Tryd.sizeOf78 rfl rfl (by first | (right; assumption) | (left; simp)) ?_)
  intro w st; dsimp only [setNth, wr] at st
  refine vc_end ?_
  refine vq_then ?_
  refine vc_keep [(1, _), (3, _), (4, _), (6, _)] ⟨rfl, rfl, rfl, rfl, trivial⟩ ?_
  refine vc_seq ?_
  refine vc_seq ?_
  refine vc_region ?_
  obtain ⟨e, he⟩ : ∃ e : NEnv, e = ⟨b15, b3, b4, b5, b6⟩ := ⟨_, rfl⟩
  obtain ⟨rfl, rfl, rfl, rfl, rfl⟩ : b15 = e.b ∧ b3 = e.bm ∧ b4 = e.bf ∧ b5 = e.be ∧ b6 = e.bs := by subst he; exact ⟨rfl, rfl, rfl, rfl, rfl⟩
  have hge : w0.heap.size ≤ e.b := by assumption
  replace st := st.joinN 4 (q := .tree e.E e.ins) (by
    intro k hk
    simp only [Res.at?, NEnv.E, List.mem_cons, List.not_mem_nil, or_false] at hk
    rcases hk with rfl | rfl | rfl | rfl
    · exact ⟨_, .tail _ (.tail _ (.tail _ (.head _))), .head _⟩
    · exact ⟨_, .tail _ (.tail _ (.head _)), .head _⟩
    · exact ⟨_, .tail _ (.head _), .head _⟩
    · exact ⟨_, .head _, .head _⟩) (by
    have h : e.ins w := ⟨st.res (i := 3) rfl, st.res (i := 2) rfl, st.res (i := 1) rfl, st.res (i := 0) rfl⟩
    exact ⟨h, h.lt, NEnv.ins.loc⟩)
  dsimp only [List.drop] at st
  have hd : e.b ∉ e.E := fun hk => st.ne (i := 1) (j := 0) (by decide) rfl rfl _ (.head _) hk
  refine vc_y rfl rfl (y_fa0 rfl Tryd.underlying25 rfl rfl Tryd.sizeOf22 rfl) ?_
  refine vc_y rfl rfl ((by exact y_ld st 2 rfl Tryd.isAgg22 rfl rfl)) ?_
  refine vc_y rfl rfl ((by exact y_faz (k := 1) rfl Tryd.underlying25 rfl rfl Tryd.sizeOf22 rfl)) ?_
  refine vc_y rfl rfl ((by exact y_ld st 2 rfl Tryd.isAgg22 rfl rfl)) ?_
  refine vc_e (e_bsn (l := [.slice os p.shared.length cs, .slice ol p.locks.length cl]) (E := 22) st [(0, _), (1, _)] rfl rfl rfl (fun w => by simp [Instr.buildSlice, run_underlying Tryd.underlying98, Tryd.sizeOf22, Tryd.zeroValue22, Instr.fill, newRow, newObj, Sem.run, go_sem]) ?_)
  intro b23 w hb23 st
  refine vc_e (e_call [_] rfl rfl Tryd.call43 rfl (concatD_any (S := S) [(os, p.shared, cs), (ol, p.locks, cl)] (by simp [DsF]; omega) (by simp) b23 _ _ (fun j x hx => by rcases j with _ | _ | j <;> simp at hx <;> subst hx <;> exact cell_nth (st.res (i := 0) rfl) rfl) (fun j x hx => by rcases j with _ | _ | j <;> simp at hx <;> subst hx; exact RowC.kept hSh (Same.of_nil st.chg); exact RowC.kept hL (Same.of_nil st.chg))) ?_)
  rintro _ w ⟨oq, cq, Sq, rfl, hq, hnq, hc⟩
  have hDs : DsF [(os, p.shared, cs), (ol, p.locks, cl)] = p.shared ++ p.locks := by simp [DsF]
  rw [hDs] at hq ⊢
  replace st := st.pushR (r := .tree Sq (fun w => DcRQ w oq cq (p.shared ++ p.locks) Sq)) hc ⟨hq, hq.lt, loc_of fun a b h hk => h.kept hk⟩ hnq.2
  refine vc_y rfl rfl (y_lensl rfl Tryd.underlying22) ?_
  refine vc_y rfl rfl (y_mv rfl) ?_
  refine vc_end ?_
  refine vq_then ?_
  refine vc_keep [(1, _), (3, _), (4, _), (6, _), (24, _), (25, _), (26, _)] ⟨rfl, rfl, rfl, rfl, rfl, rfl, rfl, trivial⟩ ?_
  refine vc_block ?_
  refine vc_loop (w0 := w0) (M := []) (fun (j : Nat) => [(1, .pointer (some ⟨b1, 0, none⟩)), (3, e.pm), (4, e.pf), (6, e.ps), (24, .slice oq (p.shared ++ p.locks).length cq), (25, .int .i64 ((p.shared ++ p.locks).length : Int)), (26, .int .i64 (j : Int))]) (fun j => [.tree e.E e.ins, .tree [e.b] (fun w => MapK w e.b (addAll (((p.shared ++ p.locks).take j).map (·.nm)) [])), .tree Sq (fun w => DcRQ w oq cq (p.shared ++ p.locks) Sq), .blk b1 (.cells (pgL p os ol ot cs cl ct).toArray 25 (0, 0))]) (fun j _ => j ≤ (p.shared ++ p.locks).length) (fun j => (p.shared ++ p.locks).length - j) 0 ⟨rfl, rfl, rfl, rfl, rfl, rfl, rfl, trivial⟩ (st.pick [2, 3, 0, 4] rfl (by decide)) (by omega) ?_
  clear st
  rintro j w hj st
  refine vc_seq ?_
  refine vc_region ?_
  refine vc_y rfl rfl (y_lss rfl rfl) ?_
  refine vc_end ?_
  refine vq_then ?_
  refine vc_keep [(1, _), (3, _), (4, _), (6, _), (24, _), (25, _), (26, _), (27, _)] ⟨rfl, rfl, rfl, rfl, rfl, rfl, rfl, rfl, trivial⟩ ?_
  refine vc_seq ?_
  refine vc_ifs rfl ?_ ?_
  · intro hc27
    try simp only [dn] at hc27
    obtain ⟨x, hx⟩ : ∃ x, (p.shared ++ p.locks)[j]? = some x := ⟨_, List.getElem?_eq_getElem (by omega)⟩
    have hR := DcR.toRow (T := fun b => b ∈ Sq) (st.res (i := 2) rfl).1 (fun b hb => hb)
    have stK := st
    obtain ⟨gb, go, rfl, hgS, hgl, hg⟩ := DcRow.at hR (by omega)
    have hc := hg j x hx
    have st := stK
    clear stK
    refine vc_code_skip ?_
    refine vq_then ?_
    refine vc_keep [(1, _), (3, _), (4, _), (6, _), (24, _), (25, _), (26, _)] ⟨rfl, rfl, rfl, rfl, rfl, rfl, rfl, trivial⟩ ?_
    refine vc_seq ?_
    refine vc_block ?_
    refine vc_seq ?_
    refine vc_region ?_
    refine vc_y rfl rfl ((by exact y_ia (k := j) rfl rfl Tryd.underlying22 Tryd.sizeOf67 rfl (by omega))) ?_
    refine vc_y rfl rfl ((by exact y_ldca (dcL x) rfl Tryd.isAgg67 Tryd.sizeOf67 rfl (fun i v hi => hc i v hi))) ?_
    refine vc_e (e_al (l := [_, _, _]) st rfl rfl Tryd.zeroValue67 rfl ?_)
    intro b8 w hb8 st
    refine vc_e (e_sts (vs := [_, _, _]) st 0 rfl rfl rfl rfl rfl Tryd.sizeOf67 rfl rfl (by first | (right; assumption) | (left; simp)) ?_)
    intro w st; dsimp only [setNth, wr] at st
    refine vc_end ?_
    refine vq_then ?_
    refine vc_keep [(1, _), (3, _), (4, _), (6, _), (8, _), (24, _), (25, _), (26, _)] ⟨rfl, rfl, rfl, rfl, rfl, rfl, rfl, rfl, trivial⟩ ?_
    refine vc_region ?_
    refine vc_y rfl rfl ((by exact y_ldc rfl Tryd.isAgg55 (cell_nth (st.res (i := 1) rfl).1.f rfl))) ?_
    refine vc_y rfl rfl (y_fa0 rfl Tryd.underlying67 rfl rfl Tryd.sizeOf9 rfl) ?_
    refine vc_y rfl rfl ((by exact y_ld st 0 rfl Tryd.isAgg9 rfl rfl)) ?_
    refine vc_e (e_callv [_] rfl rfl rfl Tryd.call40 rfl (add_any e hd x.nm _ _ (st.res (i := 2) rfl).1 (st.res (i := 1) rfl).1) ?_)
    rintro _ w ⟨rfl, hm, hc⟩
    replace st := st.turn (i := 2) (r' := .tree [e.b] (fun w => MapK w e.b _)) rfl rfl rfl hc (.inr hge) ⟨hm, by simpa using hm.lt, Loc_MapK _ _⟩
    dsimp only [setNth] at st
    refine vc_end ?_
    refine vq_block ?_
    refine vq_then ?_
    refine vc_keep [(1, _), (3, _), (4, _), (6, _), (24, _), (25, _), (26, _)] ⟨rfl, rfl, rfl, rfl, rfl, rfl, rfl, trivial⟩ ?_
    refine vc_region ?_
    refine vc_y rfl rfl (y_add rfl rfl (by omega : _ = ((j + 1 : Nat) : Int)) (by omega) (by omega)) ?_
    refine vc_y rfl rfl (y_mv rfl) ?_
    refine vc_end ?_
    refine vq_again (j + 1)  ⟨rfl, rfl, rfl, rfl, rfl, rfl, rfl, trivial⟩ (by rw [map_step hx, addAll_app]; exact st.pick [1, 2, 3, 4] rfl (by decide)) ?_ ?_
    · omega
    · omega
  · intro hc27
    try simp only [dn] at hc27
    obtain rfl : j = (p.shared ++ p.locks).length := by omega
    rw [List.take_length] at st
    refine vc_exit ?_
    refine vq_then_exit ?_
    refine vq_then_exit ?_
    refine vq_block_exit ?_
    refine vq_then ?_
    refine vc_keep [(1, _), (3, _), (4, _), (6, _)] ⟨rfl, rfl, rfl, rfl, trivial⟩ ?_
    refine vc_seq ?_
    refine vc_seq ?_
    refine vc_region ?_
    refine vc_y rfl rfl ((by exact y_faz (k := 2) rfl Tryd.underlying25 rfl rfl Tryd.sizeOf23 rfl)) ?_
    refine vc_y rfl rfl ((by exact y_ld st 3 rfl Tryd.isAgg23 rfl rfl)) ?_
    refine vc_y rfl rfl (y_lensl rfl Tryd.underlying23) ?_
    refine vc_y rfl rfl (y_mv rfl) ?_
    refine vc_end ?_
    refine vq_then ?_
    refine vc_keep [(3, _), (4, _), (6, _), (36, _), (37, _), (38, _)] ⟨rfl, rfl, rfl, rfl, rfl, rfl, trivial⟩ ?_
    refine vc_block ?_
    refine vc_loop (w0 := w0) (M := []) (fun (j : Nat) => [(3, e.pm), (4, e.pf), (6, e.ps), (36, .slice ot p.threads.length ct), (37, .int .i64 (p.threads.length : Int)), (38, .int .i64 (j : Int))]) (fun j => [.tree e.E e.ins, .tree [e.b] (fun w => MapK w e.b (kT p j))]) (fun j _ => j ≤ p.threads.length) (fun j => p.threads.length - j) 0 ⟨rfl, rfl, rfl, rfl, rfl, rfl, trivial⟩ (st.pick [0, 1] rfl (by decide)) (by omega) ?_
    clear st
    rintro j w hj st
    refine vc_seq ?_
    refine vc_region ?_
    refine vc_y rfl rfl (y_lss rfl rfl) ?_
    refine vc_end ?_
    refine vq_then ?_
    refine vc_keep [(3, _), (4, _), (6, _), (36, _), (37, _), (38, _), (39, _)] ⟨rfl, rfl, rfl, rfl, rfl, rfl, rfl, trivial⟩ ?_
    refine vc_seq ?_
    refine vc_ifs rfl ?_ ?_
    · intro hc39
      try simp only [dn] at hc39
      have stK := st
      obtain ⟨t, htj⟩ : ∃ t, p.threads[j]? = some t := ⟨_, List.getElem?_eq_getElem (by omega)⟩
      obtain ⟨gb, go, rfl, hgS, hgl, hg⟩ := ThRow.at hT (by omega)
      obtain ⟨tl, tb, cll, cbb, htl, htb, hc⟩ := hg j t htj
      have hkt := hok.2.2.2 j t htj
      have hkl := hkt.1.1
      have st := stK
      clear stK
      refine vc_code_skip ?_
      refine vq_then ?_
      refine vc_keep [(3, _), (4, _), (6, _), (36, _), (37, _), (38, _)] ⟨rfl, rfl, rfl, rfl, rfl, rfl, trivial⟩ ?_
      refine vc_seq ?_
      refine vc_block ?_
      refine vc_seq ?_
      refine vc_region ?_
      refine vc_y rfl rfl ((by exact y_ia (k := j) rfl rfl Tryd.underlying23 Tryd.sizeOf42 rfl (by omega))) ?_
      refine vc_y rfl rfl ((by exact y_ldca (thL t tl tb cll cbb) rfl Tryd.isAgg42 Tryd.sizeOf42 rfl (fun i v hi => st.chg.cell (hc i v hi) (by simp)))) ?_
      refine vc_e (e_al (l := [_, _, _, _]) st rfl rfl Tryd.zeroValue42 rfl ?_)
      intro b10 w hb10 st
      refine vc_e (e_sts (vs := [_, _, _, _]) st 0 rfl rfl rfl rfl rfl Tryd.sizeOf42 rfl rfl (by first | (right; assumption) | (left; simp)) ?_)
      intro w st; dsimp only [setNth, wr] at st
      refine vc_end ?_
      refine vq_then ?_
      refine vc_keep [(3, _), (4, _), (6, _), (10, _), (36, _), (37, _), (38, _)] ⟨rfl, rfl, rfl, rfl, rfl, rfl, rfl, trivial⟩ ?_
      refine vc_seq ?_
      refine vc_region ?_
      refine vc_y rfl rfl ((by exact y_ldc rfl Tryd.isAgg55 (cell_nth (st.res (i := 1) rfl).1.f rfl))) ?_
      refine vc_y rfl rfl (y_fa0 rfl Tryd.underlying42 rfl rfl Tryd.sizeOf9 rfl) ?_
      refine vc_y rfl rfl ((by exact y_ld st 0 rfl Tryd.isAgg9 rfl rfl)) ?_
      refine vc_e (e_callv [_] rfl rfl rfl Tryd.call40 rfl (add_any e hd t.nm _ _ (st.res (i := 2) rfl).1 (st.res (i := 1) rfl).1) ?_)
      rintro _ w ⟨rfl, hm, hc⟩
      replace st := st.turn (i := 2) (r' := .tree [e.b] (fun w => MapK w e.b _)) rfl rfl rfl hc (.inr hge) ⟨hm, by simpa using hm.lt, Loc_MapK _ _⟩
      dsimp only [setNth] at st
      refine vc_end ?_
      refine vq_then ?_
      refine vc_keep [(3, _), (4, _), (6, _), (10, _), (36, _), (37, _), (38, _)] ⟨rfl, rfl, rfl, rfl, rfl, rfl, rfl, trivial⟩ ?_
      refine vc_seq ?_
      refine vc_seq ?_
      refine vc_region ?_
      refine vc_y rfl rfl ((by exact y_faz (k := 1) rfl Tryd.underlying42 rfl rfl Tryd.sizeOf22 rfl)) ?_
      refine vc_y rfl rfl ((by exact y_ld st 0 rfl Tryd.isAgg22 rfl rfl)) ?_
      refine vc_y rfl rfl (y_lensl rfl Tryd.underlying22) ?_
      refine vc_y rfl rfl (y_mv rfl) ?_
      refine vc_end ?_
      refine vq_then ?_
      refine vc_keep [(3, _), (4, _), (6, _), (10, _), (36, _), (37, _), (38, _), (47, _), (48, _), (49, _)] ⟨rfl, rfl, rfl, rfl, rfl, rfl, rfl, rfl, rfl, rfl, trivial⟩ ?_
      refine vc_block ?_
      refine vc_loop (w0 := w0) (M := []) (fun (i : Nat) => [(3, e.pm), (4, e.pf), (6, e.ps), (10, .pointer (some ⟨b10, 0, none⟩)), (36, .slice (some ⟨gb, go, none⟩) p.threads.length ct), (37, .int .i64 (p.threads.length : Int)), (38, .int .i64 (j : Int)), (47, .slice tl t.locals.length cll), (48, .int .i64 (t.locals.length : Int)), (49, .int .i64 (i : Int))]) (fun i => [.blk b10 (.cells (thL t tl tb cll cbb).toArray 42 (0, 0)), .tree e.E e.ins, .tree [e.b] (fun w => MapK w e.b (addAll ((t.locals.take i).map (·.nm)) (addK t.nm (kT p j))))]) (fun i _ => i ≤ t.locals.length) (fun i => t.locals.length - i) 0 ⟨rfl, rfl, rfl, rfl, rfl, rfl, rfl, rfl, rfl, rfl, trivial⟩ st (by omega) ?_
      clear st
      rintro i w hi st
      refine vc_seq ?_
      refine vc_region ?_
      refine vc_y rfl rfl (y_lss rfl rfl) ?_
      refine vc_end ?_
      refine vq_then ?_
      refine vc_keep [(3, _), (4, _), (6, _), (10, _), (36, _), (37, _), (38, _), (47, _), (48, _), (49, _), (50, _)] ⟨rfl, rfl, rfl, rfl, rfl, rfl, rfl, rfl, rfl, rfl, rfl, trivial⟩ ?_
      refine vc_seq ?_
      refine vc_ifs rfl ?_ ?_
      · intro hc50
        try simp only [dn] at hc50
        have stK := st
        obtain ⟨x, hx⟩ : ∃ x, t.locals[i]? = some x := ⟨_, List.getElem?_eq_getElem (by omega)⟩
        obtain ⟨lb, lo, rfl, hlS, hll, hlg⟩ := DcRow.at htl (by omega)
        have hlc := hlg i x hx
        have st := stK
        clear stK
        refine vc_code_skip ?_
        refine vq_then ?_
        refine vc_keep [(3, _), (4, _), (6, _), (10, _), (36, _), (37, _), (38, _), (47, _), (48, _), (49, _)] ⟨rfl, rfl, rfl, rfl, rfl, rfl, rfl, rfl, rfl, rfl, trivial⟩ ?_
        refine vc_seq ?_
        refine vc_block ?_
        refine vc_seq ?_
        refine vc_region ?_
        refine vc_y rfl rfl ((by exact y_ia (k := i) rfl rfl Tryd.underlying22 Tryd.sizeOf67 rfl (by omega))) ?_
        refine vc_y rfl rfl ((by exact y_ldca (dcL x) rfl Tryd.isAgg67 Tryd.sizeOf67 rfl (fun i v hi => st.chg.cell (hlc i v hi) (by simp)))) ?_
        refine vc_e (e_al (l := [_, _, _]) st rfl rfl Tryd.zeroValue67 rfl ?_)
        intro b12 w hb12 st
        refine vc_e (e_sts (vs := [_, _, _]) st 0 rfl rfl rfl rfl rfl Tryd.sizeOf67 rfl rfl (by first | (right; assumption) | (left; simp)) ?_)
        intro w st; dsimp only [setNth, wr] at st
        refine vc_end ?_
        refine vq_then ?_
        refine vc_keep [(3, _), (4, _), (6, _), (10, _), (12, _), (36, _), (37, _), (38, _), (47, _), (48, _), (49, _)] ⟨rfl, rfl, rfl, rfl, rfl, rfl, rfl, rfl, rfl, rfl, rfl, trivial⟩ ?_
        refine vc_region ?_
        refine vc_y rfl rfl ((by exact y_ldc rfl Tryd.isAgg55 (cell_nth (st.res (i := 2) rfl).1.f rfl))) ?_
        refine vc_y rfl rfl (y_fa0 rfl Tryd.underlying67 rfl rfl Tryd.sizeOf9 rfl) ?_
        refine vc_y rfl rfl ((by exact y_ld st 0 rfl Tryd.isAgg9 rfl rfl)) ?_
        refine vc_e (e_callv [_] rfl rfl rfl Tryd.call40 rfl (add_any e hd x.nm _ _ (st.res (i := 3) rfl).1 (st.res (i := 2) rfl).1) ?_)
        rintro _ w ⟨rfl, hm, hc⟩
        replace st := st.turn (i := 3) (r' := .tree [e.b] (fun w => MapK w e.b _)) rfl rfl rfl hc (.inr hge) ⟨hm, by simpa using hm.lt, Loc_MapK _ _⟩
        dsimp only [setNth] at st
        refine vc_end ?_
        refine vq_block ?_
        refine vq_then ?_
        refine vc_keep [(3, _), (4, _), (6, _), (10, _), (36, _), (37, _), (38, _), (47, _), (48, _), (49, _)] ⟨rfl, rfl, rfl, rfl, rfl, rfl, rfl, rfl, rfl, rfl, trivial⟩ ?_
        refine vc_region ?_
        refine vc_y rfl rfl (y_add rfl rfl (by omega : _ = ((i + 1 : Nat) : Int)) (by omega) (by omega)) ?_
        refine vc_y rfl rfl (y_mv rfl) ?_
        refine vc_end ?_
        refine vq_again (i + 1)  ⟨rfl, rfl, rfl, rfl, rfl, rfl, rfl, rfl, rfl, rfl, trivial⟩ (by rw [map_step hx, addAll_app]; exact st.pick [1, 2, 3] rfl (by decide)) ?_ ?_
        · omega
        · omega
      · intro hc50
        try simp only [dn] at hc50
        obtain rfl : i = t.locals.length := by omega
        rw [List.take_length] at st
        refine vc_exit ?_
        refine vq_then_exit ?_
        refine vq_then_exit ?_
        refine vq_block_exit ?_
        refine vq_then ?_
        refine vc_keep [(3, _), (4, _), (6, _), (10, _), (36, _), (37, _), (38, _)] ⟨rfl, rfl, rfl, rfl, rfl, rfl, rfl, trivial⟩ ?_
        refine vc_region ?_
        refine vc_y rfl rfl ((by exact y_ldc rfl Tryd.isAgg78 (cell_nth (st.res (i := 1) rfl).1.s rfl))) ?_
        refine vc_y rfl rfl ((by exact y_faz (k := 2) rfl Tryd.underlying42 rfl rfl Tryd.sizeOf40 rfl)) ?_
        refine vc_y rfl rfl ((by exact y_ld st 0 rfl Tryd.isAgg40 rfl rfl)) ?_
        refine vc_e (e_callv [_] rfl rfl rfl Tryd.call42 rfl (nsl_any (S := S) e hd (fun hh => by have := hS _ hh; omega) _ t.body rfl hkt.2.1 _ _ _ _ (htb.kept (Same.of_nil st.chg)) (st.res (i := 2) rfl).1 (st.res (i := 1) rfl).1) ?_)
        rintro _ w ⟨rfl, hm, hc⟩
        replace st := st.turn (i := 2) (r' := .tree [e.b] (fun w => MapK w e.b _)) rfl rfl rfl hc (.inr hge) ⟨hm, by simpa using hm.lt, Loc_MapK _ _⟩
        dsimp only [setNth] at st
        refine vc_end ?_
        refine vq_block ?_
        refine vq_then ?_
        refine vc_keep [(3, _), (4, _), (6, _), (36, _), (37, _), (38, _)] ⟨rfl, rfl, rfl, rfl, rfl, rfl, trivial⟩ ?_
        refine vc_region ?_
        refine vc_y rfl rfl (y_add rfl rfl (by omega : _ = ((j + 1 : Nat) : Int)) (by omega) (by omega)) ?_
        refine vc_y rfl rfl (y_mv rfl) ?_
        refine vc_end ?_
        refine vq_again (j + 1)  ⟨rfl, rfl, rfl, rfl, rfl, rfl, trivial⟩ (by show St _ _ [_, .tree [e.b] (fun w => MapK w e.b (addAll ((p.threads.take (j + 1)).flatMap nmsT) (kD p)))] _; rw [flat_step htj, addAll_app, nmsT, addAll_app, List.singleton_append, addAll_cons]; exact st.pick [1, 2] rfl (by decide)) ?_ ?_
        · omega
        · omega
    · intro hc39
      try simp only [dn] at hc39
      obtain rfl : j = p.threads.length := by omega
      rw [kT_all] at st
      have hK : (kAll p).length ≤ 4398046511104 := by have := addAll_len (nmsP p) []; simp at this; exact Nat.le_trans this hlen
      refine vc_exit ?_
      refine vq_then_exit ?_
      refine vq_then_exit ?_
      refine vq_block_exit ?_
      refine vq_then ?_
      refine vc_keep [(3, _)] ⟨rfl, trivial⟩ ?_
      refine vc_seq ?_
      refine vc_region ?_
      refine vc_y rfl rfl (y_as rfl) ?_
      refine vc_end ?_
      refine vq_then ?_
      refine vc_keep [(3, _), (13, _)] ⟨rfl, rfl, trivial⟩ ?_
      refine vc_seq ?_
      refine vc_seq ?_
      refine vc_region ?_
      refine vc_y rfl rfl ((by exact y_ldc rfl Tryd.isAgg76 (cell_nth (st.res (i := 0) rfl).1.m rfl))) ?_
      refine vc_e (e_rg st 1 rfl rfl rfl rfl Tryd.underlying76 ?_)
      intro r64 w hr64 hne64 st; dsimp only [setNth] at st
      refine vc_end ?_
      refine vq_then ?_
      refine vc_keep [(13, _), (64, _)] ⟨rfl, rfl, trivial⟩ ?_
      refine vc_block ?_
      refine vc_loop (w0 := w0) (M := []) (fun (z : Option Addr × Nat × List Wd) => [(13, .slice z.1 z.2.2.length z.2.1), (64, .pointer (some ⟨r64, 0, none⟩))]) (fun z => [.own (.slice z.1 z.2.2.length z.2.1) 9 1 z.2.2.length (z.2.2.map str), .tree [e.b, r64] (fun w => IterK w e.b r64 (kAll p) z.2.2)]) (fun z _ => z.2.2.length ≤ (kAll p).length) (fun z => (kAll p).length - z.2.2.length) (none, 0, []) ⟨rfl, rfl, trivial⟩ ((st.ownNil 9 1).pick [0, 2] rfl (by decide)) (by simp) ?_
      clear st
      rintro ⟨o13, c13, dn⟩ w hdl st
      dsimp only at *
      refine vc_seq ?_
      refine vc_region ?_
      refine vc_e (e_nx st 1 rfl rfl rfl rfl (by assumption) (by first | (right; assumption) | (left; simp)) ?_)
      intro t65 rest65 dn65 w hF65 hT65 st; dsimp only [setNth] at st
      refine vc_y rfl rfl (y_ext rfl rfl) ?_
      refine vc_end ?_
      refine vq_then ?_
      refine vc_keep [(13, _), (64, _), (66, _)] ⟨rfl, rfl, rfl, trivial⟩ ?_
      refine vc_seq ?_
      refine vc_ifs rfl ?_ ?_
      · intro hc66
        try simp only [dn] at hc66
        obtain ⟨s, rfl, hlt⟩ := hT65 hc66
        refine vc_code_skip ?_
        refine vq_then ?_
        refine vc_keep [(13, _), (64, _)] ⟨rfl, rfl, trivial⟩ ?_
        refine vc_block ?_
        refine vc_seq ?_
        refine vc_region ?_
        refine vc_e (e_en st 1 rfl rfl rfl rfl ?_)
        intro c67
        refine vc_y rfl rfl (y_ext rfl rfl) ?_
        refine vc_y rfl rfl (y_as rfl) ?_
        refine vc_end ?_
        refine vq_then ?_
        refine vc_keep [(13, _), (14, _), (64, _)] ⟨rfl, rfl, rfl, trivial⟩ ?_
        refine vc_region ?_
        refine vc_y rfl rfl (y_mv rfl) ?_
        refine vc_y rfl rfl (y_mv rfl) ?_
        refine vc_e (e_bs1 (l := [_]) st rfl rfl rfl rfl Tryd.underlying36 Tryd.sizeOf9 rfl rfl rfl Tryd.zeroValue9 ?_)
        intro b71 w hb71 st
        refine vc_e (e_app (bytes := 16) st 1 0 rfl rfl rfl rfl rfl rfl Tryd.underlying36 Tryd.info9 rfl rfl rfl rfl rfl (by simp) rfl rfl (by unfold maxLen; omega) (by omega) ?_)
        intro oa72 cap72 w st; dsimp only [setNth] at st
        refine vc_y rfl rfl (y_as rfl) ?_
        refine vc_end ?_
        refine vq_block ?_
        refine vq_again (oa72, cap72, dn ++ [s])  ⟨by rw [show (dn ++ [s]).length = dn.length + 1 by simp]; rfl, rfl, trivial⟩ (by rw [show (dn ++ [s]).length = dn.length + 1 by simp, List.map_append]; exact st.pick [1, 2] rfl (by decide)) ?_ ?_
        · simp; omega
        · simp; omega
      · intro hc66
        try simp only [dn] at hc66
        obtain ⟨rfl, hperm⟩ := hF65 hc66
        refine vc_exit ?_
        refine vq_then_exit ?_
        refine vq_then_exit ?_
        refine vq_block_exit ?_
        refine vq_then ?_
        refine vc_keep [(13, _)] ⟨rfl, trivial⟩ ?_
        refine vc_seq ?_
        refine vc_region ?_
        refine vc_y rfl rfl (y_mv rfl) ?_
        refine vc_e (e_call [_] rfl rfl Tryd.call44 rfl (sort_any w0.heap.size _ _ _ _ (by have := hperm.length_eq; omega) (st.res (i := 0) rfl)) ?_)
        rintro _ w ⟨rfl, ho, hc⟩
        replace st := st.swap (i := 0) (r' := .own (.slice o13 dn65.length c13) 9 1 dn65.length ((sortW dn65).map str)) rfl hc (fun k hk => hk) (fun k hk => .inr (own_ge (st.res (i := 0) rfl) k hk)) (fun k hk => .inl hk) ho
        dsimp only [setNth] at st
        refine vc_end ?_
        refine vq_then ?_
        refine vc_keep [(13, _)] ⟨rfl, trivial⟩ ?_
        refine vc_seq ?_
        refine vc_region ?_
        refine vc_y rfl rfl (y_mv rfl) ?_
        refine vc_y rfl rfl (y_as rfl) ?_
        refine vc_end ?_
        refine vq_then ?_
        refine vc_keep [(2, _)] ⟨rfl, trivial⟩ ?_
        refine vc_ret ?_
        refine vq_ret1 st (.inl rfl) Tryd.results15 (.tmp rfl) ?_
        refine ⟨_, rfl, ?_⟩
        have hsrt : sortW dn65 = namesL p := sort_perm hperm
        rw [hsrt] at st
        have hl : (namesL p).length = dn65.length := by rw [← hsrt]; simp [sortW]
        refine ⟨_, _, by rw [hl], ?_, st.chg⟩
        rw [hl]
        exact st.res (i := 0) rfl

end Go.Proofs.YtnmhlpnapgojjaaDoor


/- When trees are the same: no program in sight. -/
namespace LexS
open Sx
set_option linter.unusedVariables false
set_option linter.unusedSimpArgs false
def zipA {α β : Type} (f : α → β → Bool) : List α → List β → Bool
  | [], [] => true
  | x :: r, y :: s => f x y && zipA f r s
  | _, _ => false
theorem zipA_len {α β : Type} {f : α → β → Bool} : ∀ {a : List α} {b : List β}, a.length ≠ b.length → zipA f a b = false
  | [], [], h => absurd rfl h
  | x :: r, y :: s, h => by simp only [zipA, zipA_len (f := f) (a := r) (b := s) (by simpa using h), Bool.and_false]
  | [], _ :: _, _ => rfl
  | _ :: _, [], _ => rfl
theorem zipA_no {α β : Type} {f : α → β → Bool} : ∀ {a : List α} {b : List β} {j : Nat} {x : α} {y : β}, a[j]? = some x → b[j]? = some y → f x y = false → zipA f a b = false
  | [], _, j, x, y, h, _, _ => by simp at h
  | _ :: _, [], j, x, y, _, h, _ => by simp at h
  | u :: r, v :: s, 0, x, y, h1, h2, h => by simp at h1 h2; subst h1 h2; simp [zipA, h]
  | u :: r, v :: s, j + 1, x, y, h1, h2, h => by simp only [zipA, zipA_no (f := f) (a := r) (b := s) (by simpa using h1) (by simpa using h2) h, Bool.and_false]
theorem zipA_yes {α β : Type} {f : α → β → Bool} : ∀ {a : List α} {b : List β}, a.length = b.length → (∀ (j : Nat) x y, j < a.length → a[j]? = some x → b[j]? = some y → f x y = true) → zipA f a b = true
  | [], [], _, _ => rfl
  | u :: r, v :: s, hl, h => by
    simp only [zipA, Bool.and_eq_true]
    exact ⟨h 0 u v (by simp) rfl rfl, zipA_yes (by simpa using hl) fun j x y hj h1 h2 => h (j + 1) x y (by simp; omega) (by simpa using h1) (by simpa using h2)⟩
  | [], _ :: _, hl, _ => by simp at hl
  | _ :: _, [], hl, _ => by simp at hl
theorem zipA_refl {α : Type} {f : α → α → Bool} {a : List α} (h : ∀ x ∈ a, f x x = true) : zipA f a a = true :=
  zipA_yes rfl fun j x y hj h1 h2 => by rw [h1] at h2; cases h2; exact h x (List.mem_of_getElem? h1)
mutual
def sameE : Ex → Ex → Bool
  | .mk k op wd nm kids a, y => decide (k = y.k ∧ op = y.op ∧ wd = y.wd ∧ nm = y.nm) && sameEs kids y.kids
termination_by structural e => e
def sameEs : List Ex → List Ex → Bool
  | [], l => l.isEmpty
  | x :: r, l => match l with | [] => false | y :: s => sameE x y && sameEs r s
termination_by structural l => l
end
mutual
def plE : Ex → Ex → Bool
  | .mk k op wd nm kids a, y => decide (a = y.a) && plEs kids y.kids
termination_by structural e => e
def plEs : List Ex → List Ex → Bool
  | [], l => l.isEmpty
  | x :: r, l => match l with | [] => false | y :: s => plE x y && plEs r s
termination_by structural l => l
end
theorem sameEs_eq : ∀ (a b : List Ex), sameEs a b = zipA sameE a b
  | [], [] => rfl
  | [], _ :: _ => rfl
  | _ :: _, [] => by simp [sameEs, zipA]
  | x :: r, y :: s => by simp only [sameEs, zipA, sameEs_eq r s]
theorem plEs_eq : ∀ (a b : List Ex), plEs a b = zipA plE a b
  | [], [] => rfl
  | [], _ :: _ => rfl
  | _ :: _, [] => by simp [plEs, zipA]
  | x :: r, y :: s => by simp only [plEs, zipA, plEs_eq r s]
theorem sameE_eq (e y : Ex) : sameE e y = (decide (e.k = y.k ∧ e.op = y.op ∧ e.wd = y.wd ∧ e.nm = y.nm) && zipA sameE e.kids y.kids) := by
  cases e; rw [sameE, sameEs_eq]; rfl
theorem plE_eq (e y : Ex) : plE e y = (decide (e.a = y.a) && zipA plE e.kids y.kids) := by
  cases e; rw [plE, plEs_eq]; rfl
mutual
def sameS : Sm → Sm → Bool
  | .mk k nm other e body els a, y => decide (k = y.k ∧ nm = y.nm ∧ other = y.other) && zipA sameE e y.e && sameSs body y.body && sameSs els y.els
termination_by structural e => e
def sameSs : List Sm → List Sm → Bool
  | [], l => l.isEmpty
  | x :: r, l => match l with | [] => false | y :: s => sameS x y && sameSs r s
termination_by structural l => l
end
mutual
def plS : Sm → Sm → Bool
  | .mk k nm other e body els a, y => decide (a = y.a) && zipA plE e y.e && plSs body y.body && plSs els y.els
termination_by structural e => e
def plSs : List Sm → List Sm → Bool
  | [], l => l.isEmpty
  | x :: r, l => match l with | [] => false | y :: s => plS x y && plSs r s
termination_by structural l => l
end
theorem sameSs_eq : ∀ (a b : List Sm), sameSs a b = zipA sameS a b
  | [], [] => rfl
  | [], _ :: _ => rfl
  | _ :: _, [] => by simp [sameSs, zipA]
  | x :: r, y :: s => by simp only [sameSs, zipA, sameSs_eq r s]
theorem plSs_eq : ∀ (a b : List Sm), plSs a b = zipA plS a b
  | [], [] => rfl
  | [], _ :: _ => rfl
  | _ :: _, [] => by simp [plSs, zipA]
  | x :: r, y :: s => by simp only [plSs, zipA, plSs_eq r s]
theorem sameS_eq (s y : Sm) : sameS s y = (decide (s.k = y.k ∧ s.nm = y.nm ∧ s.other = y.other) && zipA sameE s.e y.e && zipA sameS s.body y.body && zipA sameS s.els y.els) := by
  cases s; rw [sameS, sameSs_eq, sameSs_eq]; rfl
theorem plS_eq (s y : Sm) : plS s y = (decide (s.a = y.a) && zipA plE s.e y.e && zipA plS s.body y.body && zipA plS s.els y.els) := by
  cases s; rw [plS, plSs_eq, plSs_eq]; rfl
def sameD (d y : Dc) : Bool := decide (d.nm = y.nm ∧ d.wd = y.wd)
def eqD (d y : Dc) : Bool := decide (d.nm = y.nm ∧ d.wd = y.wd ∧ d.a = y.a)
def sameT (t y : Th) : Bool := decide (t.nm = y.nm) && zipA sameD t.locals y.locals && zipA sameS t.body y.body
def exT (t y : Th) : Bool := decide (t.a = y.a) && zipA eqD t.locals y.locals && zipA plS t.body y.body
def sameP (p q : Pg) : Bool := zipA sameD p.shared q.shared && zipA sameD p.locks q.locks && zipA sameT p.threads q.threads
def exactP (p q : Pg) : Bool := sameP p q && zipA eqD p.shared q.shared && zipA eqD p.locks q.locks && zipA exT p.threads q.threads
theorem memE_lt {e x : Ex} (h : x ∈ e.kids) : SizeOf.sizeOf x < SizeOf.sizeOf e := by
  cases e with
  | mk k op wd nm kids a =>
    have := List.sizeOf_lt_of_mem h
    simp only [Ex.kids] at this
    simp only [Ex.mk.sizeOf_spec]; omega
theorem memS_lt {s x : Sm} (h : x ∈ s.body ∨ x ∈ s.els) : SizeOf.sizeOf x < SizeOf.sizeOf s := by
  cases s with
  | mk k nm other e body els a =>
    simp only [Sm.body, Sm.els] at h
    simp only [Sm.mk.sizeOf_spec]
    rcases h with h | h <;> (have := List.sizeOf_lt_of_mem h; omega)
theorem sameE_refl : ∀ (n : Nat) (e : Ex), SizeOf.sizeOf e = n → sameE e e = true := by
  intro n
  refine Nat.strongRecOn n fun n ih e hn => ?_
  subst hn
  rw [sameE_eq]
  simp only [and_self, decide_true, Bool.true_and]
  exact zipA_refl fun x hx => ih _ (memE_lt hx) x rfl
theorem plE_refl : ∀ (n : Nat) (e : Ex), SizeOf.sizeOf e = n → plE e e = true := by
  intro n
  refine Nat.strongRecOn n fun n ih e hn => ?_
  subst hn
  rw [plE_eq]
  simp only [decide_true, Bool.true_and]
  exact zipA_refl fun x hx => ih _ (memE_lt hx) x rfl
theorem sameS_refl : ∀ (n : Nat) (s : Sm), SizeOf.sizeOf s = n → sameS s s = true := by
  intro n
  refine Nat.strongRecOn n fun n ih s hn => ?_
  subst hn
  rw [sameS_eq]
  simp only [and_self, decide_true, Bool.true_and, Bool.and_eq_true]
  exact ⟨⟨zipA_refl fun x hx => sameE_refl _ x rfl, zipA_refl fun x hx => ih _ (memS_lt (.inl hx)) x rfl⟩, zipA_refl fun x hx => ih _ (memS_lt (.inr hx)) x rfl⟩
theorem plS_refl : ∀ (n : Nat) (s : Sm), SizeOf.sizeOf s = n → plS s s = true := by
  intro n
  refine Nat.strongRecOn n fun n ih s hn => ?_
  subst hn
  rw [plS_eq]
  simp only [decide_true, Bool.true_and, Bool.and_eq_true]
  exact ⟨⟨zipA_refl fun x hx => plE_refl _ x rfl, zipA_refl fun x hx => ih _ (memS_lt (.inl hx)) x rfl⟩, zipA_refl fun x hx => ih _ (memS_lt (.inr hx)) x rfl⟩
theorem sameP_refl (p : Pg) : sameP p p = true := by
  unfold sameP
  simp only [Bool.and_eq_true]
  refine ⟨⟨zipA_refl fun x _ => by simp [sameD], zipA_refl fun x _ => by simp [sameD]⟩, zipA_refl fun t _ => ?_⟩
  unfold sameT
  simp only [decide_true, Bool.true_and, Bool.and_eq_true]
  exact ⟨zipA_refl fun x _ => by simp [sameD], zipA_refl fun x _ => sameS_refl _ x rfl⟩
theorem exactP_refl (p : Pg) : exactP p p = true := by
  unfold exactP
  simp only [sameP_refl, Bool.true_and, Bool.and_eq_true]
  refine ⟨⟨zipA_refl fun x _ => by simp [eqD], zipA_refl fun x _ => by simp [eqD]⟩, zipA_refl fun t _ => ?_⟩
  unfold exT
  simp only [decide_true, Bool.true_and, Bool.and_eq_true]
  exact ⟨zipA_refl fun x _ => by simp [eqD], zipA_refl fun x _ => plS_refl _ x rfl⟩
end LexS


namespace Go.Proofs.YtnmhlpnapgojjaaDoor
open Go.RowKit Sx LexS
set_option linter.unusedVariables false
set_option linter.unusedSimpArgs false
theorem fields67 : (Tryd.prog.fieldsOf 67).toList.map (fun f => (f.name, f.type, f.offset)) = [("Name", 9, 0), ("Word", 2, 1), ("At", 3, 2)] := by kernel_rfl
theorem eqFields67 (p q : Dc) (w : World) : (Op.eqFields 9999 (dcL p).toArray (dcL q).toArray (Tryd.prog.fieldsOf 67).toList).run Tryd.prog w = .ok (eqD p q) w := by
  have h := fields67
  match hf : (Tryd.prog.fieldsOf 67).toList with
  | [a, b, c] =>
    rw [hf] at h
    simp only [List.map_cons, List.map_nil, List.cons.injEq, Prod.mk.injEq, and_true] at h
    obtain ⟨⟨a1, a2, a3⟩, ⟨b1, b2, b3⟩, c1, c2, c3⟩ := h
    have e1 : ∀ (x : Dc) w, (part 9 (dcL x).toArray 0).run Tryd.prog w = .ok (str x.nm) w := fun x w => run_part1 Tryd.isAgg9 rfl
    have e2 : ∀ (x : Dc) w, (part 2 (dcL x).toArray 1).run Tryd.prog w = .ok (.int .i64 x.wd) w := fun x w => run_part1 Tryd.isAgg2 rfl
    have e3 : ∀ (x : Dc) w, (part 3 (dcL x).toArray 2).run Tryd.prog w = .ok (.int .i64 x.a) w := fun x w => run_part1 Tryd.isAgg3 rfl
    have r1 := run_equalIn_string (P := Tryd.prog) w 9998 9 ⟨p.nm.toArray⟩ ⟨q.nm.toArray⟩ Tryd.underlying9
    have r2 := run_equalIn_int (P := Tryd.prog) w 9998 2 .i64 .i64 p.wd q.wd Tryd.underlying2
    have r3 := run_equalIn_int (P := Tryd.prog) w 9998 3 .i64 .i64 p.a q.a Tryd.underlying3
    simp only [str_toList] at r1
    simp only [Op.eqFields, a1, a2, a3, b1, b2, b3, c1, c2, c3, Sem.run_bind, Sem.run_ite, e1, e2, e3, Result.andThen_ok]
    simp only [ne_eq, String.reduceEq, not_false_eq_true, if_true, Sem.run_bind, Sem.run_ite, e1, e2, e3, r1, r2, r3, Result.andThen_ok, Sem.run_pure]
    unfold eqD
    by_cases h1 : p.nm = q.nm
    · by_cases h2 : p.wd = q.wd
      · by_cases h3 : p.a = q.a <;> simp [h1, h2, h3]
      · simp [h1, h2]
    · simp [h1]
  | [] => rw [hf] at h; simp at h
  | [_] => rw [hf] at h; simp at h
  | [_, _] => rw [hf] at h; simp at h
  | _ :: _ :: _ :: _ :: _ => rw [hf] at h; simp at h
section
variable {n : Fr} {kn : Kn} {w : World} {d ty : Nat} {pos : String} {aft : Array Edge} {g : Option (Nat × Bool)}
theorem y_neD {U : Nat} {x y : Operand} {p q : Dc} (hx : evO kn x = some (.agg (dcL p).toArray)) (hy : evO kn y = some (.agg (dcL q).toArray)) : Y Tryd.prog n kn w ⟨some d, .binOp .neq 67 x y U, ty, pos, aft, g⟩ (.bool (!eqD p q)) :=
  y_bo hx hy (by
    have h1 := run_eqGuard_agg (P := Tryd.prog) w .neq 67 x y (dcL p).toArray (dcL q).toArray (by kernel_rfl)
    have h2 := run_neq_struct (P := Tryd.prog) w 67 (dcL p).toArray (dcL q).toArray
    rw [run_equalIn_agg w 9999 67 _ _ (by kernel_rfl) (by kernel_rfl), eqFields67] at h2
    simp only [Sem.run_bind, h1, Result.andThen_ok]
    have h3 : (binOp .neq 67 (.agg (dcL p).toArray) (.agg (dcL q).toArray)).run Tryd.prog w = .ok (.bool (!eqD p q)) w := by rw [h2]; rfl
    exact h3)
end
end Go.Proofs.YtnmhlpnapgojjaaDoor

