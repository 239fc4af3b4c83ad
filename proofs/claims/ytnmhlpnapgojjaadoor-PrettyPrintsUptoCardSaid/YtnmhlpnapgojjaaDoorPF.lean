/- A part of the proof: contracts of functions and plain laws; each theorem says its own conditions. -/
import Derived.Test.YtnmhlpnapgojjaaDoorK7
import Derived.Test.YtnmhlpnapgojjaaDoorK4
namespace Go.Proofs.YtnmhlpnapgojjaaDoor
open Go.RowKit Sx LexS _root_.Go.Proofs.Tryd
set_option linter.unusedVariables false
set_option linter.unusedSimpArgs false
section
variable {S : Nat → Prop}

set_option maxHeartbeats 4000000 in
theorem rstmt_any (s : Sm) (d : Nat) (hd : d ≤ 64) (oe ob ol : Option Addr) (ce cb cl : Nat) (w : World) (hse : ExRow w S oe s.e) (hsb : SmRow w S ob s.body) (hsl : SmRow w S ol s.els) (hok : OkS s)
    (hrec : ∀ (l : List Sm), (l = s.body ∨ l = s.els) → ∀ (oa : Option Addr) (cap : Nat) (w : World), SmRow w S oa l → Ret Tryd.prog 59 [.slice oa l.length cap, .int .i64 ((d + 1 : Nat) : Int)] w fun v w' => v = .bool (decide (d + 1 ≤ 64) && rightSs l (d + 1)) ∧ Chg [] w w') :
  Ret Tryd.prog 89 [.agg (smL s oe ob ol ce cb cl).toArray, .int .i64 (d : Int)] w fun v w' => v = .bool (rightS s d) ∧ Chg [] w w' := by
 refine ret_of [_, _] func89 rfl ntmps89 rfl ?_
 have st := St.init w []
 obtain ⟨w0, rfl⟩ : ∃ w0, w0 = w := ⟨_, rfl⟩
 have hku := hok.k
 unfold u8 at hku
 refine vc_seq (vc_region ?_)
 refine vc_e (e_bx (l := [_, _, _, _, _, _, _]) st rfl rfl rfl rfl ?_)
 intro b2 w hb2 st
 refine vc_y rfl rfl (y_as rfl) ?_
 refine vc_end (vq_then (vc_keep [(1, _), (2, _)] ⟨rfl, rfl, trivial⟩ ?_))
 refine vc_cut (w0 := w0) (M := []) (fun (_ : Unit) => [(1, .int .i64 (d : Int)), (2, .pointer (some ⟨b2, 0, none⟩)), (5, .bool (hasN s.k))]) (fun _ => [.blk b2 (.cells (smL s oe ob ol ce cb cl).toArray 70 (0, 0))]) (fun _ _ => True) ?_ ?_
 ·
  refine vc_region ?_
  refine vc_y rfl rfl (y_fa0 rfl underlying70 rfl rfl sizeOf68 rfl) ?_
  refine vc_y rfl rfl ((by exact y_ld st 0 rfl isAgg68 rfl rfl)) ?_
  refine vc_y rfl rfl (y_eqi rfl rfl) ?_
  refine vc_e (e_mvb rfl rfl rfl ?_ ?_)
  ·
   intro hg11
   try simp only [dn] at hg11
   iterate 3 refine vc_e (e_skip rfl rfl ?_)
   refine vc_y rfl rfl (y_pickt rfl rfl) ?_
   refine vc_y rfl rfl (y_mv rfl) ?_
   iterate 3 refine vc_e (e_skip rfl rfl ?_)
   refine vc_y rfl rfl (y_pickt rfl rfl) ?_
   refine vc_y rfl rfl (y_as rfl) ?_
   refine vc_end ?_
   refine vq_meet () ⟨rfl, rfl, (by first | rfl | (simp only [Sx.put, find, Nat.beq]; congr 2; unfold hasN; rw [Bool.eq_iff_iff]; simp only [decide_eq_true_eq]; (try simp only [Bool.false_eq_true, false_iff, true_iff]); omega)), trivial⟩ st ?_
   ·
    trivial
  ·
   intro hg11
   try simp only [dn] at hg11
   refine vc_y rfl rfl (y_fa0 rfl underlying70 rfl rfl sizeOf68 rfl) ?_
   refine vc_y rfl rfl ((by exact y_ld st 0 rfl isAgg68 rfl rfl)) ?_
   refine vc_y rfl rfl (y_eqi rfl rfl) ?_
   refine vc_y rfl rfl (y_pickf rfl rfl) ?_
   refine vc_e (e_mvb rfl rfl rfl ?_ ?_)
   ·
    intro hg16
    try simp only [dn] at hg16
    iterate 3 refine vc_e (e_skip rfl rfl ?_)
    refine vc_y rfl rfl (y_pickt rfl rfl) ?_
    refine vc_y rfl rfl (y_as rfl) ?_
    refine vc_end ?_
    refine vq_meet () ⟨rfl, rfl, (by first | rfl | (simp only [Sx.put, find, Nat.beq]; congr 2; unfold hasN; rw [Bool.eq_iff_iff]; simp only [decide_eq_true_eq]; (try simp only [Bool.false_eq_true, false_iff, true_iff]); omega)), trivial⟩ st ?_
    ·
     trivial
   ·
    intro hg16
    try simp only [dn] at hg16
    refine vc_y rfl rfl (y_fa0 rfl underlying70 rfl rfl sizeOf68 rfl) ?_
    refine vc_y rfl rfl ((by exact y_ld st 0 rfl isAgg68 rfl rfl)) ?_
    refine vc_y rfl rfl (y_eqi rfl rfl) ?_
    refine vc_y rfl rfl (y_pickf rfl rfl) ?_
    refine vc_y rfl rfl (y_as rfl) ?_
    refine vc_end ?_
    refine vq_meet () ⟨rfl, rfl, (by first | rfl | (simp only [Sx.put, find, Nat.beq]; congr 2; unfold hasN; rw [Bool.eq_iff_iff]; simp only [decide_eq_true_eq]; (try simp only [Bool.false_eq_true, false_iff, true_iff]); omega)), trivial⟩ st ?_
    ·
     trivial
 ·
  clear st
  rintro ⟨⟩ w - st
  refine vc_cut (w0 := w0) (M := []) (fun (_ : Unit) => [(1, .int .i64 (d : Int)), (2, .pointer (some ⟨b2, 0, none⟩))]) (fun _ => [.blk b2 (.cells (smL s oe ob ol ce cb cl).toArray 70 (0, 0))]) (fun _ _ => nmOk (hasN s.k) s.nm = true) ?_ ?_
  ·
   refine vc_seq (vc_region ?_)
   refine vc_y rfl rfl (y_mv rfl) ?_
   refine vc_e (e_mvb rfl rfl rfl ?_ ?_)
   ·
    intro hg22
    try simp only [dn] at hg22
    refine vc_y rfl rfl ((by exact y_faz (k := 1) rfl underlying70 rfl rfl sizeOf9 rfl)) ?_
    refine vc_y rfl rfl ((by exact y_ld st 0 rfl isAgg9 rfl rfl)) ?_
    refine vc_e (e_call [_] rfl rfl call57 rfl (rname_any _ _) ?_)
    rintro _ _ ⟨rfl, rfl⟩
    refine vc_y rfl rfl (y_not rfl) ?_
    refine vc_y rfl rfl (y_pickt rfl rfl) ?_
    refine vc_e (e_mvb rfl rfl rfl ?_ ?_)
    ·
     intro hg28
     try simp only [dn] at hg28
     iterate 7 refine vc_e (e_skip rfl rfl ?_)
     refine vc_y rfl rfl (y_pickt rfl rfl) ?_
     refine vc_end (vq_then (vc_keep [(1, _), (2, _), (36, _)] ⟨rfl, rfl, rfl, trivial⟩ ?_))
     refine vc_ift rfl ?_
     refine vc_seq (vc_region ?_)
     refine vc_y rfl rfl (y_as rfl) ?_
     refine vc_end (vq_then (vc_keep [(4, _)] ⟨rfl, trivial⟩ (vc_ret (vq_then_ret ?_))))
     refine vq_ret1 st (.inl rfl) results89 (.tmp rfl) ?_
     refine ⟨_, rfl, ?_⟩
     refine ⟨?_, st.chg⟩
     show Value.bool _ = Value.bool _
     congr 1
     symm
     first
      | (rw [Bool.eq_false_iff]
         intro hR
         obtain ⟨r1, r2, r3, r4, r5, r6, r7, r8, r9⟩ := rightS_iff.1 hR
         unfold nmOk at r2 r3
         clear st hse hsb hsl hrec hok
         first
           | omega
           | (simp_all; done)
           | (simp_all; omega)
           | (have hq := ‹¬ ((s.e.length : Int) = if s.k = 5 ∨ s.k = 7 then 0 else 1)›
              by_cases h57 : s.k = 5 ∨ s.k = 7
              · rw [if_pos h57] at hq
                have hE : hasE s.k = false := by unfold hasE; simp only [decide_eq_false_iff_not]; omega
                rw [hE, rightX_f, decide_eq_true_eq] at r4; omega
              · rw [if_neg h57] at hq
                have hE : hasE s.k = true := by unfold hasE; simp only [decide_eq_true_eq]; omega
                rw [hE, rightX_n (by omega)] at r4; cases r4)
           | (rw [hE, rightX_t hlen hx] at r4; simp_all; done)
           | (have hE : hasE s.k = true := by unfold hasE; simp only [decide_eq_true_eq]; omega
              rw [hE] at r4
              first
                | (rw [rightX_t (by omega) hx] at r4; simp_all; done)
                | (rw [rightX_n (by omega)] at r4; cases r4))
           | (have hE : hasE s.k = false := by unfold hasE; simp only [decide_eq_false_iff_not]; omega
              rw [hE, rightX_f, decide_eq_true_eq] at r4; omega))
      | (rw [rightS_iff]
         exact ⟨hA1, hA2, hA3, hA4, hA5, hA6, hA7.imp (fun h => ⟨h, by omega⟩) id, hA8, by rw [List.eq_nil_of_length_eq_zero (l := s.els) (by omega)]; rfl⟩)
      | (rw [Bool.eq_iff_iff, rightS_iff]
         constructor
         · rintro ⟨r1, r2, r3, r4, r5, r6, r7, r8, r9⟩
           rw [r9]
           rcases r7 with h | h
           · omega
           · simp; omega
         · intro h
           simp only [Bool.and_eq_true, decide_eq_true_eq] at h
           exact ⟨hA1, hA2, hA3, hA4, hA5, hA6, .inr (by omega), hA8, h.2⟩)
    ·
     intro hg28
     try simp only [dn] at hg28
     refine vc_y rfl rfl (y_mv rfl) ?_
     refine vc_y rfl rfl (y_not rfl) ?_
     refine vc_e (e_mvb rfl rfl rfl ?_ ?_)
     ·
      intro hg31
      try simp only [dn] at hg31
      refine vc_y rfl rfl ((by exact y_faz (k := 1) rfl underlying70 rfl rfl sizeOf9 rfl)) ?_
      refine vc_y rfl rfl ((by exact y_ld st 0 rfl isAgg9 rfl rfl)) ?_
      refine vc_y rfl rfl (y_nes rfl rfl) ?_
      refine vc_y rfl rfl (y_pickt rfl rfl) ?_
      refine vc_y rfl rfl (y_pickf rfl rfl) ?_
      refine vc_end (vq_then (vc_keep [(1, _), (2, _), (36, _)] ⟨rfl, rfl, rfl, trivial⟩ ?_))
      refine vc_ifs rfl ?_ ?_
      ·
       intro hc36
       try simp only [dn] at hc36
       refine vc_seq (vc_region ?_)
       refine vc_y rfl rfl (y_as rfl) ?_
       refine vc_end (vq_then (vc_keep [(4, _)] ⟨rfl, trivial⟩ (vc_ret (vq_then_ret ?_))))
       refine vq_ret1 st (.inl rfl) results89 (.tmp rfl) ?_
       refine ⟨_, rfl, ?_⟩
       refine ⟨?_, st.chg⟩
       show Value.bool _ = Value.bool _
       congr 1
       symm
       first
        | (rw [Bool.eq_false_iff]
           intro hR
           obtain ⟨r1, r2, r3, r4, r5, r6, r7, r8, r9⟩ := rightS_iff.1 hR
           unfold nmOk at r2 r3
           clear st hse hsb hsl hrec hok
           first
             | omega
             | (simp_all; done)
             | (simp_all; omega)
             | (have hq := ‹¬ ((s.e.length : Int) = if s.k = 5 ∨ s.k = 7 then 0 else 1)›
                by_cases h57 : s.k = 5 ∨ s.k = 7
                · rw [if_pos h57] at hq
                  have hE : hasE s.k = false := by unfold hasE; simp only [decide_eq_false_iff_not]; omega
                  rw [hE, rightX_f, decide_eq_true_eq] at r4; omega
                · rw [if_neg h57] at hq
                  have hE : hasE s.k = true := by unfold hasE; simp only [decide_eq_true_eq]; omega
                  rw [hE, rightX_n (by omega)] at r4; cases r4)
             | (rw [hE, rightX_t hlen hx] at r4; simp_all; done)
             | (have hE : hasE s.k = true := by unfold hasE; simp only [decide_eq_true_eq]; omega
                rw [hE] at r4
                first
                  | (rw [rightX_t (by omega) hx] at r4; simp_all; done)
                  | (rw [rightX_n (by omega)] at r4; cases r4))
             | (have hE : hasE s.k = false := by unfold hasE; simp only [decide_eq_false_iff_not]; omega
                rw [hE, rightX_f, decide_eq_true_eq] at r4; omega))
        | (rw [rightS_iff]
           exact ⟨hA1, hA2, hA3, hA4, hA5, hA6, hA7.imp (fun h => ⟨h, by omega⟩) id, hA8, by rw [List.eq_nil_of_length_eq_zero (l := s.els) (by omega)]; rfl⟩)
        | (rw [Bool.eq_iff_iff, rightS_iff]
           constructor
           · rintro ⟨r1, r2, r3, r4, r5, r6, r7, r8, r9⟩
             rw [r9]
             rcases r7 with h | h
             · omega
             · simp; omega
           · intro h
             simp only [Bool.and_eq_true, decide_eq_true_eq] at h
             exact ⟨hA1, hA2, hA3, hA4, hA5, hA6, .inr (by omega), hA8, h.2⟩)
      ·
       intro hc36
       try simp only [dn] at hc36
       refine vc_code_skip ?_
       refine vq_meet () ⟨rfl, rfl, trivial⟩ st ?_
       ·
        unfold nmOk; clear st hrec; simp_all
     ·
      intro hg31
      try simp only [dn] at hg31
      iterate 3 refine vc_e (e_skip rfl rfl ?_)
      iterate 2 refine vc_y rfl rfl (y_pickf rfl rfl) ?_
      refine vc_end (vq_then (vc_keep [(1, _), (2, _), (36, _)] ⟨rfl, rfl, rfl, trivial⟩ ?_))
      refine vc_iff rfl ?_
      refine vc_code_skip ?_
      refine vq_meet () ⟨rfl, rfl, trivial⟩ st ?_
      ·
       unfold nmOk; clear st hrec; simp_all
   ·
    intro hg22
    try simp only [dn] at hg22
    iterate 4 refine vc_e (e_skip rfl rfl ?_)
    refine vc_y rfl rfl (y_pickf rfl rfl) ?_
    iterate 2 refine vc_y rfl rfl (y_mv rfl) ?_
    refine vc_y rfl rfl (y_not rfl) ?_
    refine vc_e (e_mvb rfl rfl rfl ?_ ?_)
    ·
     intro hg31
     try simp only [dn] at hg31
     refine vc_y rfl rfl ((by exact y_faz (k := 1) rfl underlying70 rfl rfl sizeOf9 rfl)) ?_
     refine vc_y rfl rfl ((by exact y_ld st 0 rfl isAgg9 rfl rfl)) ?_
     refine vc_y rfl rfl (y_nes rfl rfl) ?_
     refine vc_y rfl rfl (y_pickt rfl rfl) ?_
     refine vc_y rfl rfl (y_pickf rfl rfl) ?_
     refine vc_end (vq_then (vc_keep [(1, _), (2, _), (36, _)] ⟨rfl, rfl, rfl, trivial⟩ ?_))
     refine vc_ifs rfl ?_ ?_
     ·
      intro hc36
      try simp only [dn] at hc36
      refine vc_seq (vc_region ?_)
      refine vc_y rfl rfl (y_as rfl) ?_
      refine vc_end (vq_then (vc_keep [(4, _)] ⟨rfl, trivial⟩ (vc_ret (vq_then_ret ?_))))
      refine vq_ret1 st (.inl rfl) results89 (.tmp rfl) ?_
      refine ⟨_, rfl, ?_⟩
      refine ⟨?_, st.chg⟩
      show Value.bool _ = Value.bool _
      congr 1
      symm
      first
       | (rw [Bool.eq_false_iff]
          intro hR
          obtain ⟨r1, r2, r3, r4, r5, r6, r7, r8, r9⟩ := rightS_iff.1 hR
          unfold nmOk at r2 r3
          clear st hse hsb hsl hrec hok
          first
            | omega
            | (simp_all; done)
            | (simp_all; omega)
            | (have hq := ‹¬ ((s.e.length : Int) = if s.k = 5 ∨ s.k = 7 then 0 else 1)›
               by_cases h57 : s.k = 5 ∨ s.k = 7
               · rw [if_pos h57] at hq
                 have hE : hasE s.k = false := by unfold hasE; simp only [decide_eq_false_iff_not]; omega
                 rw [hE, rightX_f, decide_eq_true_eq] at r4; omega
               · rw [if_neg h57] at hq
                 have hE : hasE s.k = true := by unfold hasE; simp only [decide_eq_true_eq]; omega
                 rw [hE, rightX_n (by omega)] at r4; cases r4)
            | (rw [hE, rightX_t hlen hx] at r4; simp_all; done)
            | (have hE : hasE s.k = true := by unfold hasE; simp only [decide_eq_true_eq]; omega
               rw [hE] at r4
               first
                 | (rw [rightX_t (by omega) hx] at r4; simp_all; done)
                 | (rw [rightX_n (by omega)] at r4; cases r4))
            | (have hE : hasE s.k = false := by unfold hasE; simp only [decide_eq_false_iff_not]; omega
               rw [hE, rightX_f, decide_eq_true_eq] at r4; omega))
       | (rw [rightS_iff]
          exact ⟨hA1, hA2, hA3, hA4, hA5, hA6, hA7.imp (fun h => ⟨h, by omega⟩) id, hA8, by rw [List.eq_nil_of_length_eq_zero (l := s.els) (by omega)]; rfl⟩)
       | (rw [Bool.eq_iff_iff, rightS_iff]
          constructor
          · rintro ⟨r1, r2, r3, r4, r5, r6, r7, r8, r9⟩
            rw [r9]
            rcases r7 with h | h
            · omega
            · simp; omega
          · intro h
            simp only [Bool.and_eq_true, decide_eq_true_eq] at h
            exact ⟨hA1, hA2, hA3, hA4, hA5, hA6, .inr (by omega), hA8, h.2⟩)
     ·
      intro hc36
      try simp only [dn] at hc36
      refine vc_code_skip ?_
      refine vq_meet () ⟨rfl, rfl, trivial⟩ st ?_
      ·
       unfold nmOk; clear st hrec; simp_all
    ·
     intro hg31
     try simp only [dn] at hg31
     iterate 3 refine vc_e (e_skip rfl rfl ?_)
     iterate 2 refine vc_y rfl rfl (y_pickf rfl rfl) ?_
     refine vc_end (vq_then (vc_keep [(1, _), (2, _), (36, _)] ⟨rfl, rfl, rfl, trivial⟩ ?_))
     refine vc_iff rfl ?_
     refine vc_code_skip ?_
     refine vq_meet () ⟨rfl, rfl, trivial⟩ st ?_
     ·
      unfold nmOk; clear st hrec; simp_all
  ·
   clear st
   rintro ⟨⟩ w hA2 st
   refine vc_cut (w0 := w0) (M := []) (fun (_ : Unit) => [(1, .int .i64 (d : Int)), (2, .pointer (some ⟨b2, 0, none⟩))]) (fun _ => [.blk b2 (.cells (smL s oe ob ol ce cb cl).toArray 70 (0, 0))]) (fun _ _ => nmOk (decide (s.k = 2)) s.other = true) ?_ ?_
   ·
    refine vc_seq (vc_region ?_)
    refine vc_y rfl rfl (y_fa0 rfl underlying70 rfl rfl sizeOf68 rfl) ?_
    refine vc_y rfl rfl ((by exact y_ld st 0 rfl isAgg68 rfl rfl)) ?_
    refine vc_y rfl rfl (y_eqi rfl rfl) ?_
    refine vc_e (e_mvb rfl rfl rfl ?_ ?_)
    ·
     intro hg40
     try simp only [dn] at hg40
     refine vc_y rfl rfl ((by exact y_faz (k := 2) rfl underlying70 rfl rfl sizeOf9 rfl)) ?_
     refine vc_y rfl rfl ((by exact y_ld st 0 rfl isAgg9 rfl rfl)) ?_
     refine vc_e (e_call [_] rfl rfl call57 rfl (rname_any _ _) ?_)
     rintro _ _ ⟨rfl, rfl⟩
     refine vc_y rfl rfl (y_not rfl) ?_
     refine vc_y rfl rfl (y_pickt rfl rfl) ?_
     refine vc_e (e_mvb rfl rfl rfl ?_ ?_)
     ·
      intro hg46
      try simp only [dn] at hg46
      iterate 8 refine vc_e (e_skip rfl rfl ?_)
      refine vc_y rfl rfl (y_pickt rfl rfl) ?_
      refine vc_end (vq_then (vc_keep [(1, _), (2, _), (55, _)] ⟨rfl, rfl, rfl, trivial⟩ ?_))
      refine vc_ift rfl ?_
      refine vc_seq (vc_region ?_)
      refine vc_y rfl rfl (y_as rfl) ?_
      refine vc_end (vq_then (vc_keep [(4, _)] ⟨rfl, trivial⟩ (vc_ret (vq_then_ret ?_))))
      refine vq_ret1 st (.inl rfl) results89 (.tmp rfl) ?_
      refine ⟨_, rfl, ?_⟩
      refine ⟨?_, st.chg⟩
      show Value.bool _ = Value.bool _
      congr 1
      symm
      first
       | (rw [Bool.eq_false_iff]
          intro hR
          obtain ⟨r1, r2, r3, r4, r5, r6, r7, r8, r9⟩ := rightS_iff.1 hR
          unfold nmOk at r2 r3
          clear st hse hsb hsl hrec hok
          first
            | omega
            | (simp_all; done)
            | (simp_all; omega)
            | (have hq := ‹¬ ((s.e.length : Int) = if s.k = 5 ∨ s.k = 7 then 0 else 1)›
               by_cases h57 : s.k = 5 ∨ s.k = 7
               · rw [if_pos h57] at hq
                 have hE : hasE s.k = false := by unfold hasE; simp only [decide_eq_false_iff_not]; omega
                 rw [hE, rightX_f, decide_eq_true_eq] at r4; omega
               · rw [if_neg h57] at hq
                 have hE : hasE s.k = true := by unfold hasE; simp only [decide_eq_true_eq]; omega
                 rw [hE, rightX_n (by omega)] at r4; cases r4)
            | (rw [hE, rightX_t hlen hx] at r4; simp_all; done)
            | (have hE : hasE s.k = true := by unfold hasE; simp only [decide_eq_true_eq]; omega
               rw [hE] at r4
               first
                 | (rw [rightX_t (by omega) hx] at r4; simp_all; done)
                 | (rw [rightX_n (by omega)] at r4; cases r4))
            | (have hE : hasE s.k = false := by unfold hasE; simp only [decide_eq_false_iff_not]; omega
               rw [hE, rightX_f, decide_eq_true_eq] at r4; omega))
       | (rw [rightS_iff]
          exact ⟨hA1, hA2, hA3, hA4, hA5, hA6, hA7.imp (fun h => ⟨h, by omega⟩) id, hA8, by rw [List.eq_nil_of_length_eq_zero (l := s.els) (by omega)]; rfl⟩)
       | (rw [Bool.eq_iff_iff, rightS_iff]
          constructor
          · rintro ⟨r1, r2, r3, r4, r5, r6, r7, r8, r9⟩
            rw [r9]
            rcases r7 with h | h
            · omega
            · simp; omega
          · intro h
            simp only [Bool.and_eq_true, decide_eq_true_eq] at h
            exact ⟨hA1, hA2, hA3, hA4, hA5, hA6, .inr (by omega), hA8, h.2⟩)
     ·
      intro hg46
      try simp only [dn] at hg46
      refine vc_y rfl rfl (y_fa0 rfl underlying70 rfl rfl sizeOf68 rfl) ?_
      refine vc_y rfl rfl ((by exact y_ld st 0 rfl isAgg68 rfl rfl)) ?_
      refine vc_y rfl rfl (y_nei rfl rfl) ?_
      refine vc_e (e_mvb rfl rfl rfl ?_ ?_)
      ·
       intro hg50
       try simp only [dn] at hg50
       refine vc_y rfl rfl ((by exact y_faz (k := 2) rfl underlying70 rfl rfl sizeOf9 rfl)) ?_
       refine vc_y rfl rfl ((by exact y_ld st 0 rfl isAgg9 rfl rfl)) ?_
       refine vc_y rfl rfl (y_nes rfl rfl) ?_
       refine vc_y rfl rfl (y_pickt rfl rfl) ?_
       refine vc_y rfl rfl (y_pickf rfl rfl) ?_
       refine vc_end (vq_then (vc_keep [(1, _), (2, _), (55, _)] ⟨rfl, rfl, rfl, trivial⟩ ?_))
       refine vc_ifs rfl ?_ ?_
       ·
        intro hc55
        try simp only [dn] at hc55
        refine vc_seq (vc_region ?_)
        refine vc_y rfl rfl (y_as rfl) ?_
        refine vc_end (vq_then (vc_keep [(4, _)] ⟨rfl, trivial⟩ (vc_ret (vq_then_ret ?_))))
        refine vq_ret1 st (.inl rfl) results89 (.tmp rfl) ?_
        refine ⟨_, rfl, ?_⟩
        refine ⟨?_, st.chg⟩
        show Value.bool _ = Value.bool _
        congr 1
        symm
        first
         | (rw [Bool.eq_false_iff]
            intro hR
            obtain ⟨r1, r2, r3, r4, r5, r6, r7, r8, r9⟩ := rightS_iff.1 hR
            unfold nmOk at r2 r3
            clear st hse hsb hsl hrec hok
            first
              | omega
              | (simp_all; done)
              | (simp_all; omega)
              | (have hq := ‹¬ ((s.e.length : Int) = if s.k = 5 ∨ s.k = 7 then 0 else 1)›
                 by_cases h57 : s.k = 5 ∨ s.k = 7
                 · rw [if_pos h57] at hq
                   have hE : hasE s.k = false := by unfold hasE; simp only [decide_eq_false_iff_not]; omega
                   rw [hE, rightX_f, decide_eq_true_eq] at r4; omega
                 · rw [if_neg h57] at hq
                   have hE : hasE s.k = true := by unfold hasE; simp only [decide_eq_true_eq]; omega
                   rw [hE, rightX_n (by omega)] at r4; cases r4)
              | (rw [hE, rightX_t hlen hx] at r4; simp_all; done)
              | (have hE : hasE s.k = true := by unfold hasE; simp only [decide_eq_true_eq]; omega
                 rw [hE] at r4
                 first
                   | (rw [rightX_t (by omega) hx] at r4; simp_all; done)
                   | (rw [rightX_n (by omega)] at r4; cases r4))
              | (have hE : hasE s.k = false := by unfold hasE; simp only [decide_eq_false_iff_not]; omega
                 rw [hE, rightX_f, decide_eq_true_eq] at r4; omega))
         | (rw [rightS_iff]
            exact ⟨hA1, hA2, hA3, hA4, hA5, hA6, hA7.imp (fun h => ⟨h, by omega⟩) id, hA8, by rw [List.eq_nil_of_length_eq_zero (l := s.els) (by omega)]; rfl⟩)
         | (rw [Bool.eq_iff_iff, rightS_iff]
            constructor
            · rintro ⟨r1, r2, r3, r4, r5, r6, r7, r8, r9⟩
              rw [r9]
              rcases r7 with h | h
              · omega
              · simp; omega
            · intro h
              simp only [Bool.and_eq_true, decide_eq_true_eq] at h
              exact ⟨hA1, hA2, hA3, hA4, hA5, hA6, .inr (by omega), hA8, h.2⟩)
       ·
        intro hc55
        try simp only [dn] at hc55
        refine vc_code_skip ?_
        refine vq_meet () ⟨rfl, rfl, trivial⟩ st ?_
        ·
         unfold nmOk; clear st hrec; simp_all
      ·
       intro hg50
       try simp only [dn] at hg50
       iterate 3 refine vc_e (e_skip rfl rfl ?_)
       iterate 2 refine vc_y rfl rfl (y_pickf rfl rfl) ?_
       refine vc_end (vq_then (vc_keep [(1, _), (2, _), (55, _)] ⟨rfl, rfl, rfl, trivial⟩ ?_))
       refine vc_iff rfl ?_
       refine vc_code_skip ?_
       refine vq_meet () ⟨rfl, rfl, trivial⟩ st ?_
       ·
        unfold nmOk; clear st hrec; simp_all
    ·
     intro hg40
     try simp only [dn] at hg40
     iterate 4 refine vc_e (e_skip rfl rfl ?_)
     refine vc_y rfl rfl (y_pickf rfl rfl) ?_
     refine vc_y rfl rfl (y_mv rfl) ?_
     refine vc_y rfl rfl (y_fa0 rfl underlying70 rfl rfl sizeOf68 rfl) ?_
     refine vc_y rfl rfl ((by exact y_ld st 0 rfl isAgg68 rfl rfl)) ?_
     refine vc_y rfl rfl (y_nei rfl rfl) ?_
     refine vc_e (e_mvb rfl rfl rfl ?_ ?_)
     ·
      intro hg50
      try simp only [dn] at hg50
      refine vc_y rfl rfl ((by exact y_faz (k := 2) rfl underlying70 rfl rfl sizeOf9 rfl)) ?_
      refine vc_y rfl rfl ((by exact y_ld st 0 rfl isAgg9 rfl rfl)) ?_
      refine vc_y rfl rfl (y_nes rfl rfl) ?_
      refine vc_y rfl rfl (y_pickt rfl rfl) ?_
      refine vc_y rfl rfl (y_pickf rfl rfl) ?_
      refine vc_end (vq_then (vc_keep [(1, _), (2, _), (55, _)] ⟨rfl, rfl, rfl, trivial⟩ ?_))
      refine vc_ifs rfl ?_ ?_
      ·
       intro hc55
       try simp only [dn] at hc55
       refine vc_seq (vc_region ?_)
       refine vc_y rfl rfl (y_as rfl) ?_
       refine vc_end (vq_then (vc_keep [(4, _)] ⟨rfl, trivial⟩ (vc_ret (vq_then_ret ?_))))
       refine vq_ret1 st (.inl rfl) results89 (.tmp rfl) ?_
       refine ⟨_, rfl, ?_⟩
       refine ⟨?_, st.chg⟩
       show Value.bool _ = Value.bool _
       congr 1
       symm
       first
        | (rw [Bool.eq_false_iff]
           intro hR
           obtain ⟨r1, r2, r3, r4, r5, r6, r7, r8, r9⟩ := rightS_iff.1 hR
           unfold nmOk at r2 r3
           clear st hse hsb hsl hrec hok
           first
             | omega
             | (simp_all; done)
             | (simp_all; omega)
             | (have hq := ‹¬ ((s.e.length : Int) = if s.k = 5 ∨ s.k = 7 then 0 else 1)›
                by_cases h57 : s.k = 5 ∨ s.k = 7
                · rw [if_pos h57] at hq
                  have hE : hasE s.k = false := by unfold hasE; simp only [decide_eq_false_iff_not]; omega
                  rw [hE, rightX_f, decide_eq_true_eq] at r4; omega
                · rw [if_neg h57] at hq
                  have hE : hasE s.k = true := by unfold hasE; simp only [decide_eq_true_eq]; omega
                  rw [hE, rightX_n (by omega)] at r4; cases r4)
             | (rw [hE, rightX_t hlen hx] at r4; simp_all; done)
             | (have hE : hasE s.k = true := by unfold hasE; simp only [decide_eq_true_eq]; omega
                rw [hE] at r4
                first
                  | (rw [rightX_t (by omega) hx] at r4; simp_all; done)
                  | (rw [rightX_n (by omega)] at r4; cases r4))
             | (have hE : hasE s.k = false := by unfold hasE; simp only [decide_eq_false_iff_not]; omega
                rw [hE, rightX_f, decide_eq_true_eq] at r4; omega))
        | (rw [rightS_iff]
           exact ⟨hA1, hA2, hA3, hA4, hA5, hA6, hA7.imp (fun h => ⟨h, by omega⟩) id, hA8, by rw [List.eq_nil_of_length_eq_zero (l := s.els) (by omega)]; rfl⟩)
        | (rw [Bool.eq_iff_iff, rightS_iff]
           constructor
           · rintro ⟨r1, r2, r3, r4, r5, r6, r7, r8, r9⟩
             rw [r9]
             rcases r7 with h | h
             · omega
             · simp; omega
           · intro h
             simp only [Bool.and_eq_true, decide_eq_true_eq] at h
             exact ⟨hA1, hA2, hA3, hA4, hA5, hA6, .inr (by omega), hA8, h.2⟩)
      ·
       intro hc55
       try simp only [dn] at hc55
       refine vc_code_skip ?_
       refine vq_meet () ⟨rfl, rfl, trivial⟩ st ?_
       ·
        unfold nmOk; clear st hrec; simp_all
     ·
      intro hg50
      try simp only [dn] at hg50
      iterate 3 refine vc_e (e_skip rfl rfl ?_)
      iterate 2 refine vc_y rfl rfl (y_pickf rfl rfl) ?_
      refine vc_end (vq_then (vc_keep [(1, _), (2, _), (55, _)] ⟨rfl, rfl, rfl, trivial⟩ ?_))
      refine vc_iff rfl ?_
      refine vc_code_skip ?_
      refine vq_meet () ⟨rfl, rfl, trivial⟩ st ?_
      ·
       unfold nmOk; clear st hrec; simp_all
   ·
    clear st
    rintro ⟨⟩ w hA3 st
    refine vc_seq (vc_region ?_)
    refine vc_y rfl rfl (y_as rfl) ?_
    refine vc_end (vq_then (vc_keep [(1, _), (2, _), (6, _)] ⟨rfl, rfl, rfl, trivial⟩ ?_))
    refine vc_cut (w0 := w0) (M := []) (fun (_ : Unit) => [(1, .int .i64 (d : Int)), (2, .pointer (some ⟨b2, 0, none⟩)), (6, .int .i64 (if s.k = 5 ∨ s.k = 7 then 0 else 1))]) (fun _ => [.blk b2 (.cells (smL s oe ob ol ce cb cl).toArray 70 (0, 0))]) (fun _ _ => True) ?_ ?_
    ·
     refine vc_seq (vc_region ?_)
     refine vc_y rfl rfl (y_fa0 rfl underlying70 rfl rfl sizeOf68 rfl) ?_
     refine vc_y rfl rfl ((by exact y_ld st 0 rfl isAgg68 rfl rfl)) ?_
     refine vc_y rfl rfl (y_eqi rfl rfl) ?_
     refine vc_e (e_mvb rfl rfl rfl ?_ ?_)
     ·
      intro hg59
      try simp only [dn] at hg59
      iterate 3 refine vc_e (e_skip rfl rfl ?_)
      refine vc_y rfl rfl (y_pickt rfl rfl) ?_
      refine vc_end (vq_then (vc_keep [(1, _), (2, _), (6, _), (63, _)] ⟨rfl, rfl, rfl, rfl, trivial⟩ ?_))
      refine vc_ift rfl ?_
      refine vc_region ?_
      refine vc_y rfl rfl (y_as rfl) ?_
      refine vc_end ?_
      refine vq_meet () ⟨rfl, rfl, by simp only [Sx.put, find, Nat.beq]; first | rw [if_pos (by omega)] | rw [if_neg (by omega)], trivial⟩ st ?_
      ·
       trivial
     ·
      intro hg59
      try simp only [dn] at hg59
      refine vc_y rfl rfl (y_fa0 rfl underlying70 rfl rfl sizeOf68 rfl) ?_
      refine vc_y rfl rfl ((by exact y_ld st 0 rfl isAgg68 rfl rfl)) ?_
      refine vc_y rfl rfl (y_eqi rfl rfl) ?_
      refine vc_y rfl rfl (y_pickf rfl rfl) ?_
      refine vc_end (vq_then (vc_keep [(1, _), (2, _), (6, _), (63, _)] ⟨rfl, rfl, rfl, rfl, trivial⟩ ?_))
      refine vc_ifs rfl ?_ ?_
      ·
       intro hc63
       try simp only [dn] at hc63
       refine vc_region ?_
       refine vc_y rfl rfl (y_as rfl) ?_
       refine vc_end ?_
       refine vq_meet () ⟨rfl, rfl, by simp only [Sx.put, find, Nat.beq]; first | rw [if_pos (by omega)] | rw [if_neg (by omega)], trivial⟩ st ?_
       ·
        trivial
      ·
       intro hc63
       try simp only [dn] at hc63
       refine vc_code_skip ?_
       refine vq_meet () ⟨rfl, rfl, by simp only [Sx.put, find, Nat.beq]; first | rw [if_pos (by omega)] | rw [if_neg (by omega)], trivial⟩ st ?_
       ·
        trivial
    ·
     clear st
     rintro ⟨⟩ w - st
     refine vc_cut (w0 := w0) (M := []) (fun (_ : Unit) => [(1, .int .i64 (d : Int)), (2, .pointer (some ⟨b2, 0, none⟩))]) (fun _ => [.blk b2 (.cells (smL s oe ob ol ce cb cl).toArray 70 (0, 0))]) (fun _ _ => (1 ≤ s.k ∧ s.k ≤ 7) ∧ rightX (hasE s.k) s.e = true) ?_ ?_
     ·
      refine vc_seq (vc_region ?_)
      refine vc_y rfl rfl (y_fa0 rfl underlying70 rfl rfl sizeOf68 rfl) ?_
      refine vc_y rfl rfl ((by exact y_ld st 0 rfl isAgg68 rfl rfl)) ?_
      refine vc_y rfl rfl (y_leq rfl rfl) ?_
      refine vc_e (e_mvb rfl rfl rfl ?_ ?_)
      ·
       intro hg67
       try simp only [dn] at hg67
       iterate 3 refine vc_e (e_skip rfl rfl ?_)
       refine vc_y rfl rfl (y_pickt rfl rfl) ?_
       refine vc_y rfl rfl (y_mv rfl) ?_
       iterate 5 refine vc_e (e_skip rfl rfl ?_)
       refine vc_y rfl rfl (y_pickt rfl rfl) ?_
       refine vc_y rfl rfl (y_mv rfl) ?_
       iterate 10 refine vc_e (e_skip rfl rfl ?_)
       refine vc_y rfl rfl (y_pickt rfl rfl) ?_
       refine vc_end (vq_then (vc_keep [(1, _), (2, _), (90, _)] ⟨rfl, rfl, rfl, trivial⟩ ?_))
       refine vc_ift rfl ?_
       refine vc_seq (vc_region ?_)
       refine vc_y rfl rfl (y_as rfl) ?_
       refine vc_end (vq_then (vc_keep [(4, _)] ⟨rfl, trivial⟩ (vc_ret (vq_then_ret ?_))))
       refine vq_ret1 st (.inl rfl) results89 (.tmp rfl) ?_
       refine ⟨_, rfl, ?_⟩
       refine ⟨?_, st.chg⟩
       show Value.bool _ = Value.bool _
       congr 1
       symm
       first
        | (rw [Bool.eq_false_iff]
           intro hR
           obtain ⟨r1, r2, r3, r4, r5, r6, r7, r8, r9⟩ := rightS_iff.1 hR
           unfold nmOk at r2 r3
           clear st hse hsb hsl hrec hok
           first
             | omega
             | (simp_all; done)
             | (simp_all; omega)
             | (have hq := ‹¬ ((s.e.length : Int) = if s.k = 5 ∨ s.k = 7 then 0 else 1)›
                by_cases h57 : s.k = 5 ∨ s.k = 7
                · rw [if_pos h57] at hq
                  have hE : hasE s.k = false := by unfold hasE; simp only [decide_eq_false_iff_not]; omega
                  rw [hE, rightX_f, decide_eq_true_eq] at r4; omega
                · rw [if_neg h57] at hq
                  have hE : hasE s.k = true := by unfold hasE; simp only [decide_eq_true_eq]; omega
                  rw [hE, rightX_n (by omega)] at r4; cases r4)
             | (rw [hE, rightX_t hlen hx] at r4; simp_all; done)
             | (have hE : hasE s.k = true := by unfold hasE; simp only [decide_eq_true_eq]; omega
                rw [hE] at r4
                first
                  | (rw [rightX_t (by omega) hx] at r4; simp_all; done)
                  | (rw [rightX_n (by omega)] at r4; cases r4))
             | (have hE : hasE s.k = false := by unfold hasE; simp only [decide_eq_false_iff_not]; omega
                rw [hE, rightX_f, decide_eq_true_eq] at r4; omega))
        | (rw [rightS_iff]
           exact ⟨hA1, hA2, hA3, hA4, hA5, hA6, hA7.imp (fun h => ⟨h, by omega⟩) id, hA8, by rw [List.eq_nil_of_length_eq_zero (l := s.els) (by omega)]; rfl⟩)
        | (rw [Bool.eq_iff_iff, rightS_iff]
           constructor
           · rintro ⟨r1, r2, r3, r4, r5, r6, r7, r8, r9⟩
             rw [r9]
             rcases r7 with h | h
             · omega
             · simp; omega
           · intro h
             simp only [Bool.and_eq_true, decide_eq_true_eq] at h
             exact ⟨hA1, hA2, hA3, hA4, hA5, hA6, .inr (by omega), hA8, h.2⟩)
      ·
       intro hg67
       try simp only [dn] at hg67
       refine vc_y rfl rfl (y_fa0 rfl underlying70 rfl rfl sizeOf68 rfl) ?_
       refine vc_y rfl rfl ((by exact y_ld st 0 rfl isAgg68 rfl rfl)) ?_
       refine vc_y rfl rfl (y_geq rfl rfl) ?_
       refine vc_y rfl rfl (y_pickf rfl rfl) ?_
       refine vc_e (e_mvb rfl rfl rfl ?_ ?_)
       ·
        intro hg72
        try simp only [dn] at hg72
        iterate 5 refine vc_e (e_skip rfl rfl ?_)
        refine vc_y rfl rfl (y_pickt rfl rfl) ?_
        refine vc_y rfl rfl (y_mv rfl) ?_
        iterate 10 refine vc_e (e_skip rfl rfl ?_)
        refine vc_y rfl rfl (y_pickt rfl rfl) ?_
        refine vc_end (vq_then (vc_keep [(1, _), (2, _), (90, _)] ⟨rfl, rfl, rfl, trivial⟩ ?_))
        refine vc_ift rfl ?_
        refine vc_seq (vc_region ?_)
        refine vc_y rfl rfl (y_as rfl) ?_
        refine vc_end (vq_then (vc_keep [(4, _)] ⟨rfl, trivial⟩ (vc_ret (vq_then_ret ?_))))
        refine vq_ret1 st (.inl rfl) results89 (.tmp rfl) ?_
        refine ⟨_, rfl, ?_⟩
        refine ⟨?_, st.chg⟩
        show Value.bool _ = Value.bool _
        congr 1
        symm
        first
         | (rw [Bool.eq_false_iff]
            intro hR
            obtain ⟨r1, r2, r3, r4, r5, r6, r7, r8, r9⟩ := rightS_iff.1 hR
            unfold nmOk at r2 r3
            clear st hse hsb hsl hrec hok
            first
              | omega
              | (simp_all; done)
              | (simp_all; omega)
              | (have hq := ‹¬ ((s.e.length : Int) = if s.k = 5 ∨ s.k = 7 then 0 else 1)›
                 by_cases h57 : s.k = 5 ∨ s.k = 7
                 · rw [if_pos h57] at hq
                   have hE : hasE s.k = false := by unfold hasE; simp only [decide_eq_false_iff_not]; omega
                   rw [hE, rightX_f, decide_eq_true_eq] at r4; omega
                 · rw [if_neg h57] at hq
                   have hE : hasE s.k = true := by unfold hasE; simp only [decide_eq_true_eq]; omega
                   rw [hE, rightX_n (by omega)] at r4; cases r4)
              | (rw [hE, rightX_t hlen hx] at r4; simp_all; done)
              | (have hE : hasE s.k = true := by unfold hasE; simp only [decide_eq_true_eq]; omega
                 rw [hE] at r4
                 first
                   | (rw [rightX_t (by omega) hx] at r4; simp_all; done)
                   | (rw [rightX_n (by omega)] at r4; cases r4))
              | (have hE : hasE s.k = false := by unfold hasE; simp only [decide_eq_false_iff_not]; omega
                 rw [hE, rightX_f, decide_eq_true_eq] at r4; omega))
         | (rw [rightS_iff]
            exact ⟨hA1, hA2, hA3, hA4, hA5, hA6, hA7.imp (fun h => ⟨h, by omega⟩) id, hA8, by rw [List.eq_nil_of_length_eq_zero (l := s.els) (by omega)]; rfl⟩)
         | (rw [Bool.eq_iff_iff, rightS_iff]
            constructor
            · rintro ⟨r1, r2, r3, r4, r5, r6, r7, r8, r9⟩
              rw [r9]
              rcases r7 with h | h
              · omega
              · simp; omega
            · intro h
              simp only [Bool.and_eq_true, decide_eq_true_eq] at h
              exact ⟨hA1, hA2, hA3, hA4, hA5, hA6, .inr (by omega), hA8, h.2⟩)
       ·
        intro hg72
        try simp only [dn] at hg72
        refine vc_y rfl rfl ((by exact y_faz (k := 3) rfl underlying70 rfl rfl sizeOf61 rfl)) ?_
        refine vc_y rfl rfl ((by exact y_ld st 0 rfl isAgg61 rfl rfl)) ?_
        refine vc_y rfl rfl (y_lensl rfl underlying61) ?_
        refine vc_y rfl rfl (y_mv rfl) ?_
        refine vc_y rfl rfl (y_nei rfl rfl) ?_
        refine vc_y rfl rfl (y_pickf rfl rfl) ?_
        refine vc_e (e_mvb rfl rfl rfl ?_ ?_)
        ·
         intro hg79
         try simp only [dn] at hg79
         iterate 10 refine vc_e (e_skip rfl rfl ?_)
         refine vc_y rfl rfl (y_pickt rfl rfl) ?_
         refine vc_end (vq_then (vc_keep [(1, _), (2, _), (90, _)] ⟨rfl, rfl, rfl, trivial⟩ ?_))
         refine vc_ift rfl ?_
         refine vc_seq (vc_region ?_)
         refine vc_y rfl rfl (y_as rfl) ?_
         refine vc_end (vq_then (vc_keep [(4, _)] ⟨rfl, trivial⟩ (vc_ret (vq_then_ret ?_))))
         refine vq_ret1 st (.inl rfl) results89 (.tmp rfl) ?_
         refine ⟨_, rfl, ?_⟩
         refine ⟨?_, st.chg⟩
         show Value.bool _ = Value.bool _
         congr 1
         symm
         first
          | (rw [Bool.eq_false_iff]
             intro hR
             obtain ⟨r1, r2, r3, r4, r5, r6, r7, r8, r9⟩ := rightS_iff.1 hR
             unfold nmOk at r2 r3
             clear st hse hsb hsl hrec hok
             first
               | omega
               | (simp_all; done)
               | (simp_all; omega)
               | (have hq := ‹¬ ((s.e.length : Int) = if s.k = 5 ∨ s.k = 7 then 0 else 1)›
                  by_cases h57 : s.k = 5 ∨ s.k = 7
                  · rw [if_pos h57] at hq
                    have hE : hasE s.k = false := by unfold hasE; simp only [decide_eq_false_iff_not]; omega
                    rw [hE, rightX_f, decide_eq_true_eq] at r4; omega
                  · rw [if_neg h57] at hq
                    have hE : hasE s.k = true := by unfold hasE; simp only [decide_eq_true_eq]; omega
                    rw [hE, rightX_n (by omega)] at r4; cases r4)
               | (rw [hE, rightX_t hlen hx] at r4; simp_all; done)
               | (have hE : hasE s.k = true := by unfold hasE; simp only [decide_eq_true_eq]; omega
                  rw [hE] at r4
                  first
                    | (rw [rightX_t (by omega) hx] at r4; simp_all; done)
                    | (rw [rightX_n (by omega)] at r4; cases r4))
               | (have hE : hasE s.k = false := by unfold hasE; simp only [decide_eq_false_iff_not]; omega
                  rw [hE, rightX_f, decide_eq_true_eq] at r4; omega))
          | (rw [rightS_iff]
             exact ⟨hA1, hA2, hA3, hA4, hA5, hA6, hA7.imp (fun h => ⟨h, by omega⟩) id, hA8, by rw [List.eq_nil_of_length_eq_zero (l := s.els) (by omega)]; rfl⟩)
          | (rw [Bool.eq_iff_iff, rightS_iff]
             constructor
             · rintro ⟨r1, r2, r3, r4, r5, r6, r7, r8, r9⟩
               rw [r9]
               rcases r7 with h | h
               · omega
               · simp; omega
             · intro h
               simp only [Bool.and_eq_true, decide_eq_true_eq] at h
               exact ⟨hA1, hA2, hA3, hA4, hA5, hA6, .inr (by omega), hA8, h.2⟩)
        ·
         intro hg79
         try simp only [dn] at hg79
         refine vc_y rfl rfl (y_mv rfl) ?_
         refine vc_y rfl rfl (y_eqi rfl rfl) ?_
         refine vc_e (e_mvb rfl rfl rfl ?_ ?_)
         ·
          intro hg82
          try simp only [dn] at hg82
          have hq : ¬ (s.k = 5 ∨ s.k = 7) := by intro h; rw [if_pos h] at hg82; omega
          rw [if_neg hq] at hg79
          have hlen : s.e.length = 1 := by omega
          have hE : hasE s.k = true := by unfold hasE; simp only [decide_eq_true_eq]; omega
          obtain ⟨x, hx⟩ := get0 (l := s.e) (n := s.e.length) rfl (by omega)
          obtain ⟨eb, eo, rfl, heS, hel, heg⟩ := ExRow.at hse (by omega)
          obtain ⟨o0, c0, hV0, hr0, hc0⟩ := heg 0 x hx
          refine vc_y rfl rfl ((by exact y_faz (k := 3) rfl underlying70 rfl rfl sizeOf61 rfl)) ?_
          refine vc_y rfl rfl ((by exact y_ld st 0 rfl isAgg61 rfl rfl)) ?_
          refine vc_y rfl rfl ((by exact y_ia (k := 0) rfl rfl underlying61 sizeOf63 rfl (by omega))) ?_
          refine vc_y rfl rfl ((by exact y_ldca (exL x o0 c0) rfl isAgg63 sizeOf63 rfl (fun i v hi => st.chg.cell (hc0 i v hi) (by simp)))) ?_
          refine vc_e (e_call [_, _] rfl rfl call116 rfl (rexpr_any _ x rfl 0 _ _ (hV0.kept (Same.of_nil st.chg)) (hok.e.2 0 x hx) (by omega)) ?_)
          rintro _ w ⟨rfl, cw⟩
          replace st := st.call0 cw
          refine vc_y rfl rfl (y_not rfl) ?_
          refine vc_y rfl rfl (y_pickt rfl rfl) ?_
          refine vc_y rfl rfl (y_pickf rfl rfl) ?_
          refine vc_end (vq_then (vc_keep [(1, _), (2, _), (90, _)] ⟨rfl, rfl, rfl, trivial⟩ ?_))
          refine vc_ifs rfl ?_ ?_
          ·
           intro hc90
           try simp only [dn] at hc90
           refine vc_seq (vc_region ?_)
           refine vc_y rfl rfl (y_as rfl) ?_
           refine vc_end (vq_then (vc_keep [(4, _)] ⟨rfl, trivial⟩ (vc_ret (vq_then_ret ?_))))
           refine vq_ret1 st (.inl rfl) results89 (.tmp rfl) ?_
           refine ⟨_, rfl, ?_⟩
           refine ⟨?_, st.chg⟩
           show Value.bool _ = Value.bool _
           congr 1
           symm
           first
            | (rw [Bool.eq_false_iff]
               intro hR
               obtain ⟨r1, r2, r3, r4, r5, r6, r7, r8, r9⟩ := rightS_iff.1 hR
               unfold nmOk at r2 r3
               clear st hse hsb hsl hrec hok
               first
                 | omega
                 | (simp_all; done)
                 | (simp_all; omega)
                 | (have hq := ‹¬ ((s.e.length : Int) = if s.k = 5 ∨ s.k = 7 then 0 else 1)›
                    by_cases h57 : s.k = 5 ∨ s.k = 7
                    · rw [if_pos h57] at hq
                      have hE : hasE s.k = false := by unfold hasE; simp only [decide_eq_false_iff_not]; omega
                      rw [hE, rightX_f, decide_eq_true_eq] at r4; omega
                    · rw [if_neg h57] at hq
                      have hE : hasE s.k = true := by unfold hasE; simp only [decide_eq_true_eq]; omega
                      rw [hE, rightX_n (by omega)] at r4; cases r4)
                 | (rw [hE, rightX_t hlen hx] at r4; simp_all; done)
                 | (have hE : hasE s.k = true := by unfold hasE; simp only [decide_eq_true_eq]; omega
                    rw [hE] at r4
                    first
                      | (rw [rightX_t (by omega) hx] at r4; simp_all; done)
                      | (rw [rightX_n (by omega)] at r4; cases r4))
                 | (have hE : hasE s.k = false := by unfold hasE; simp only [decide_eq_false_iff_not]; omega
                    rw [hE, rightX_f, decide_eq_true_eq] at r4; omega))
            | (rw [rightS_iff]
               exact ⟨hA1, hA2, hA3, hA4, hA5, hA6, hA7.imp (fun h => ⟨h, by omega⟩) id, hA8, by rw [List.eq_nil_of_length_eq_zero (l := s.els) (by omega)]; rfl⟩)
            | (rw [Bool.eq_iff_iff, rightS_iff]
               constructor
               · rintro ⟨r1, r2, r3, r4, r5, r6, r7, r8, r9⟩
                 rw [r9]
                 rcases r7 with h | h
                 · omega
                 · simp; omega
               · intro h
                 simp only [Bool.and_eq_true, decide_eq_true_eq] at h
                 exact ⟨hA1, hA2, hA3, hA4, hA5, hA6, .inr (by omega), hA8, h.2⟩)
          ·
           intro hc90
           try simp only [dn] at hc90
           refine vc_code_skip ?_
           refine vq_meet () ⟨rfl, rfl, trivial⟩ st ?_
           ·
            refine ⟨⟨by omega, by omega⟩, ?_⟩
            first
             | (rw [hE, rightX_t hlen hx]; assumption)
             | (rw [hE, rightX_f, decide_eq_true_eq]; omega)
         ·
          intro hg82
          try simp only [dn] at hg82
          have hq : s.k = 5 ∨ s.k = 7 := by
           by_cases h : s.k = 5 ∨ s.k = 7
           ·
            exact h
           ·
            rw [if_neg h] at hg82; omega
          rw [if_pos hq] at hg79
          have hE : hasE s.k = false := by unfold hasE; simp only [decide_eq_false_iff_not]; omega
          iterate 6 refine vc_e (e_skip rfl rfl ?_)
          iterate 2 refine vc_y rfl rfl (y_pickf rfl rfl) ?_
          refine vc_end (vq_then (vc_keep [(1, _), (2, _), (90, _)] ⟨rfl, rfl, rfl, trivial⟩ ?_))
          refine vc_iff rfl ?_
          refine vc_code_skip ?_
          refine vq_meet () ⟨rfl, rfl, trivial⟩ st ?_
          ·
           refine ⟨⟨by omega, by omega⟩, ?_⟩
           first
            | (rw [hE, rightX_t hlen hx]; assumption)
            | (rw [hE, rightX_f, decide_eq_true_eq]; omega)
     ·
      clear st
      rintro ⟨⟩ w ⟨hA1, hA4⟩ st
      refine vc_cut (w0 := w0) (M := []) (fun (_ : Unit) => [(1, .int .i64 (d : Int)), (2, .pointer (some ⟨b2, 0, none⟩)), (7, .bool (hasB s.k))]) (fun _ => [.blk b2 (.cells (smL s oe ob ol ce cb cl).toArray 70 (0, 0))]) (fun _ _ => True) ?_ ?_
      ·
       refine vc_region ?_
       refine vc_y rfl rfl (y_fa0 rfl underlying70 rfl rfl sizeOf68 rfl) ?_
       refine vc_y rfl rfl ((by exact y_ld st 0 rfl isAgg68 rfl rfl)) ?_
       refine vc_y rfl rfl (y_eqi rfl rfl) ?_
       refine vc_e (e_mvb rfl rfl rfl ?_ ?_)
       ·
        intro hg94
        try simp only [dn] at hg94
        iterate 3 refine vc_e (e_skip rfl rfl ?_)
        refine vc_y rfl rfl (y_pickt rfl rfl) ?_
        refine vc_y rfl rfl (y_mv rfl) ?_
        iterate 3 refine vc_e (e_skip rfl rfl ?_)
        refine vc_y rfl rfl (y_pickt rfl rfl) ?_
        refine vc_y rfl rfl (y_as rfl) ?_
        refine vc_end ?_
        refine vq_meet () ⟨rfl, rfl, (by first | rfl | (simp only [Sx.put, find, Nat.beq]; congr 2; unfold hasB; rw [Bool.eq_iff_iff]; simp only [decide_eq_true_eq]; (try simp only [Bool.false_eq_true, false_iff, true_iff]); omega)), trivial⟩ st ?_
        ·
         trivial
       ·
        intro hg94
        try simp only [dn] at hg94
        refine vc_y rfl rfl (y_fa0 rfl underlying70 rfl rfl sizeOf68 rfl) ?_
        refine vc_y rfl rfl ((by exact y_ld st 0 rfl isAgg68 rfl rfl)) ?_
        refine vc_y rfl rfl (y_eqi rfl rfl) ?_
        refine vc_y rfl rfl (y_pickf rfl rfl) ?_
        refine vc_e (e_mvb rfl rfl rfl ?_ ?_)
        ·
         intro hg99
         try simp only [dn] at hg99
         iterate 3 refine vc_e (e_skip rfl rfl ?_)
         refine vc_y rfl rfl (y_pickt rfl rfl) ?_
         refine vc_y rfl rfl (y_as rfl) ?_
         refine vc_end ?_
         refine vq_meet () ⟨rfl, rfl, (by first | rfl | (simp only [Sx.put, find, Nat.beq]; congr 2; unfold hasB; rw [Bool.eq_iff_iff]; simp only [decide_eq_true_eq]; (try simp only [Bool.false_eq_true, false_iff, true_iff]); omega)), trivial⟩ st ?_
         ·
          trivial
        ·
         intro hg99
         try simp only [dn] at hg99
         refine vc_y rfl rfl (y_fa0 rfl underlying70 rfl rfl sizeOf68 rfl) ?_
         refine vc_y rfl rfl ((by exact y_ld st 0 rfl isAgg68 rfl rfl)) ?_
         refine vc_y rfl rfl (y_eqi rfl rfl) ?_
         refine vc_y rfl rfl (y_pickf rfl rfl) ?_
         refine vc_y rfl rfl (y_as rfl) ?_
         refine vc_end ?_
         refine vq_meet () ⟨rfl, rfl, (by first | rfl | (simp only [Sx.put, find, Nat.beq]; congr 2; unfold hasB; rw [Bool.eq_iff_iff]; simp only [decide_eq_true_eq]; (try simp only [Bool.false_eq_true, false_iff, true_iff]); omega)), trivial⟩ st ?_
         ·
          trivial
      ·
       clear st
       rintro ⟨⟩ w - st
       refine vc_cut (w0 := w0) (M := []) (fun (_ : Unit) => [(1, .int .i64 (d : Int)), (2, .pointer (some ⟨b2, 0, none⟩)), (7, .bool (hasB s.k))]) (fun _ => [.blk b2 (.cells (smL s oe ob ol ce cb cl).toArray 70 (0, 0))]) (fun _ _ => (hasB s.k = true ∨ s.body.length = 0) ∧ (s.k = 3 ∨ s.els.length = 0)) ?_ ?_
       ·
        refine vc_seq (vc_region ?_)
        refine vc_y rfl rfl (y_mv rfl) ?_
        refine vc_y rfl rfl (y_not rfl) ?_
        refine vc_e (e_mvb rfl rfl rfl ?_ ?_)
        ·
         intro hg106
         try simp only [dn] at hg106
         refine vc_y rfl rfl ((by exact y_faz (k := 4) rfl underlying70 rfl rfl sizeOf40 rfl)) ?_
         refine vc_y rfl rfl ((by exact y_ld st 0 rfl isAgg40 rfl rfl)) ?_
         refine vc_y rfl rfl (y_lensl rfl underlying40) ?_
         refine vc_y rfl rfl (y_gtr rfl rfl) ?_
         refine vc_y rfl rfl (y_pickt rfl rfl) ?_
         refine vc_e (e_mvb rfl rfl rfl ?_ ?_)
         ·
          intro hg112
          try simp only [dn] at hg112
          iterate 9 refine vc_e (e_skip rfl rfl ?_)
          refine vc_y rfl rfl (y_pickt rfl rfl) ?_
          refine vc_end (vq_then (vc_keep [(1, _), (2, _), (7, _), (122, _)] ⟨rfl, rfl, rfl, rfl, trivial⟩ ?_))
          refine vc_ift rfl ?_
          refine vc_seq (vc_region ?_)
          refine vc_y rfl rfl (y_as rfl) ?_
          refine vc_end (vq_then (vc_keep [(4, _)] ⟨rfl, trivial⟩ (vc_ret (vq_then_ret ?_))))
          refine vq_ret1 st (.inl rfl) results89 (.tmp rfl) ?_
          refine ⟨_, rfl, ?_⟩
          refine ⟨?_, st.chg⟩
          show Value.bool _ = Value.bool _
          congr 1
          symm
          first
           | (rw [Bool.eq_false_iff]
              intro hR
              obtain ⟨r1, r2, r3, r4, r5, r6, r7, r8, r9⟩ := rightS_iff.1 hR
              unfold nmOk at r2 r3
              clear st hse hsb hsl hrec hok
              first
                | omega
                | (simp_all; done)
                | (simp_all; omega)
                | (have hq := ‹¬ ((s.e.length : Int) = if s.k = 5 ∨ s.k = 7 then 0 else 1)›
                   by_cases h57 : s.k = 5 ∨ s.k = 7
                   · rw [if_pos h57] at hq
                     have hE : hasE s.k = false := by unfold hasE; simp only [decide_eq_false_iff_not]; omega
                     rw [hE, rightX_f, decide_eq_true_eq] at r4; omega
                   · rw [if_neg h57] at hq
                     have hE : hasE s.k = true := by unfold hasE; simp only [decide_eq_true_eq]; omega
                     rw [hE, rightX_n (by omega)] at r4; cases r4)
                | (rw [hE, rightX_t hlen hx] at r4; simp_all; done)
                | (have hE : hasE s.k = true := by unfold hasE; simp only [decide_eq_true_eq]; omega
                   rw [hE] at r4
                   first
                     | (rw [rightX_t (by omega) hx] at r4; simp_all; done)
                     | (rw [rightX_n (by omega)] at r4; cases r4))
                | (have hE : hasE s.k = false := by unfold hasE; simp only [decide_eq_false_iff_not]; omega
                   rw [hE, rightX_f, decide_eq_true_eq] at r4; omega))
           | (rw [rightS_iff]
              exact ⟨hA1, hA2, hA3, hA4, hA5, hA6, hA7.imp (fun h => ⟨h, by omega⟩) id, hA8, by rw [List.eq_nil_of_length_eq_zero (l := s.els) (by omega)]; rfl⟩)
           | (rw [Bool.eq_iff_iff, rightS_iff]
              constructor
              · rintro ⟨r1, r2, r3, r4, r5, r6, r7, r8, r9⟩
                rw [r9]
                rcases r7 with h | h
                · omega
                · simp; omega
              · intro h
                simp only [Bool.and_eq_true, decide_eq_true_eq] at h
                exact ⟨hA1, hA2, hA3, hA4, hA5, hA6, .inr (by omega), hA8, h.2⟩)
         ·
          intro hg112
          try simp only [dn] at hg112
          refine vc_y rfl rfl (y_fa0 rfl underlying70 rfl rfl sizeOf68 rfl) ?_
          refine vc_y rfl rfl ((by exact y_ld st 0 rfl isAgg68 rfl rfl)) ?_
          refine vc_y rfl rfl (y_nei rfl rfl) ?_
          refine vc_e (e_mvb rfl rfl rfl ?_ ?_)
          ·
           intro hg116
           try simp only [dn] at hg116
           refine vc_y rfl rfl ((by exact y_faz (k := 5) rfl underlying70 rfl rfl sizeOf40 rfl)) ?_
           refine vc_y rfl rfl ((by exact y_ld st 0 rfl isAgg40 rfl rfl)) ?_
           refine vc_y rfl rfl (y_lensl rfl underlying40) ?_
           refine vc_y rfl rfl (y_gtr rfl rfl) ?_
           refine vc_y rfl rfl (y_pickt rfl rfl) ?_
           refine vc_y rfl rfl (y_pickf rfl rfl) ?_
           refine vc_end (vq_then (vc_keep [(1, _), (2, _), (7, _), (122, _)] ⟨rfl, rfl, rfl, rfl, trivial⟩ ?_))
           refine vc_ifs rfl ?_ ?_
           ·
            intro hc122
            try simp only [dn] at hc122
            refine vc_seq (vc_region ?_)
            refine vc_y rfl rfl (y_as rfl) ?_
            refine vc_end (vq_then (vc_keep [(4, _)] ⟨rfl, trivial⟩ (vc_ret (vq_then_ret ?_))))
            refine vq_ret1 st (.inl rfl) results89 (.tmp rfl) ?_
            refine ⟨_, rfl, ?_⟩
            refine ⟨?_, st.chg⟩
            show Value.bool _ = Value.bool _
            congr 1
            symm
            first
             | (rw [Bool.eq_false_iff]
                intro hR
                obtain ⟨r1, r2, r3, r4, r5, r6, r7, r8, r9⟩ := rightS_iff.1 hR
                unfold nmOk at r2 r3
                clear st hse hsb hsl hrec hok
                first
                  | omega
                  | (simp_all; done)
                  | (simp_all; omega)
                  | (have hq := ‹¬ ((s.e.length : Int) = if s.k = 5 ∨ s.k = 7 then 0 else 1)›
                     by_cases h57 : s.k = 5 ∨ s.k = 7
                     · rw [if_pos h57] at hq
                       have hE : hasE s.k = false := by unfold hasE; simp only [decide_eq_false_iff_not]; omega
                       rw [hE, rightX_f, decide_eq_true_eq] at r4; omega
                     · rw [if_neg h57] at hq
                       have hE : hasE s.k = true := by unfold hasE; simp only [decide_eq_true_eq]; omega
                       rw [hE, rightX_n (by omega)] at r4; cases r4)
                  | (rw [hE, rightX_t hlen hx] at r4; simp_all; done)
                  | (have hE : hasE s.k = true := by unfold hasE; simp only [decide_eq_true_eq]; omega
                     rw [hE] at r4
                     first
                       | (rw [rightX_t (by omega) hx] at r4; simp_all; done)
                       | (rw [rightX_n (by omega)] at r4; cases r4))
                  | (have hE : hasE s.k = false := by unfold hasE; simp only [decide_eq_false_iff_not]; omega
                     rw [hE, rightX_f, decide_eq_true_eq] at r4; omega))
             | (rw [rightS_iff]
                exact ⟨hA1, hA2, hA3, hA4, hA5, hA6, hA7.imp (fun h => ⟨h, by omega⟩) id, hA8, by rw [List.eq_nil_of_length_eq_zero (l := s.els) (by omega)]; rfl⟩)
             | (rw [Bool.eq_iff_iff, rightS_iff]
                constructor
                · rintro ⟨r1, r2, r3, r4, r5, r6, r7, r8, r9⟩
                  rw [r9]
                  rcases r7 with h | h
                  · omega
                  · simp; omega
                · intro h
                  simp only [Bool.and_eq_true, decide_eq_true_eq] at h
                  exact ⟨hA1, hA2, hA3, hA4, hA5, hA6, .inr (by omega), hA8, h.2⟩)
           ·
            intro hc122
            try simp only [dn] at hc122
            refine vc_code_skip ?_
            refine vq_meet () ⟨rfl, rfl, rfl, trivial⟩ st ?_
            ·
             refine ⟨?_, ?_⟩ <;> first | (left; assumption) | (right; omega)
          ·
           intro hg116
           try simp only [dn] at hg116
           iterate 4 refine vc_e (e_skip rfl rfl ?_)
           iterate 2 refine vc_y rfl rfl (y_pickf rfl rfl) ?_
           refine vc_end (vq_then (vc_keep [(1, _), (2, _), (7, _), (122, _)] ⟨rfl, rfl, rfl, rfl, trivial⟩ ?_))
           refine vc_iff rfl ?_
           refine vc_code_skip ?_
           refine vq_meet () ⟨rfl, rfl, rfl, trivial⟩ st ?_
           ·
            refine ⟨?_, ?_⟩ <;> first | (left; assumption) | (right; omega)
        ·
         intro hg106
         try simp only [dn] at hg106
         iterate 4 refine vc_e (e_skip rfl rfl ?_)
         refine vc_y rfl rfl (y_pickf rfl rfl) ?_
         refine vc_y rfl rfl (y_mv rfl) ?_
         refine vc_y rfl rfl (y_fa0 rfl underlying70 rfl rfl sizeOf68 rfl) ?_
         refine vc_y rfl rfl ((by exact y_ld st 0 rfl isAgg68 rfl rfl)) ?_
         refine vc_y rfl rfl (y_nei rfl rfl) ?_
         refine vc_e (e_mvb rfl rfl rfl ?_ ?_)
         ·
          intro hg116
          try simp only [dn] at hg116
          refine vc_y rfl rfl ((by exact y_faz (k := 5) rfl underlying70 rfl rfl sizeOf40 rfl)) ?_
          refine vc_y rfl rfl ((by exact y_ld st 0 rfl isAgg40 rfl rfl)) ?_
          refine vc_y rfl rfl (y_lensl rfl underlying40) ?_
          refine vc_y rfl rfl (y_gtr rfl rfl) ?_
          refine vc_y rfl rfl (y_pickt rfl rfl) ?_
          refine vc_y rfl rfl (y_pickf rfl rfl) ?_
          refine vc_end (vq_then (vc_keep [(1, _), (2, _), (7, _), (122, _)] ⟨rfl, rfl, rfl, rfl, trivial⟩ ?_))
          refine vc_ifs rfl ?_ ?_
          ·
           intro hc122
           try simp only [dn] at hc122
           refine vc_seq (vc_region ?_)
           refine vc_y rfl rfl (y_as rfl) ?_
           refine vc_end (vq_then (vc_keep [(4, _)] ⟨rfl, trivial⟩ (vc_ret (vq_then_ret ?_))))
           refine vq_ret1 st (.inl rfl) results89 (.tmp rfl) ?_
           refine ⟨_, rfl, ?_⟩
           refine ⟨?_, st.chg⟩
           show Value.bool _ = Value.bool _
           congr 1
           symm
           first
            | (rw [Bool.eq_false_iff]
               intro hR
               obtain ⟨r1, r2, r3, r4, r5, r6, r7, r8, r9⟩ := rightS_iff.1 hR
               unfold nmOk at r2 r3
               clear st hse hsb hsl hrec hok
               first
                 | omega
                 | (simp_all; done)
                 | (simp_all; omega)
                 | (have hq := ‹¬ ((s.e.length : Int) = if s.k = 5 ∨ s.k = 7 then 0 else 1)›
                    by_cases h57 : s.k = 5 ∨ s.k = 7
                    · rw [if_pos h57] at hq
                      have hE : hasE s.k = false := by unfold hasE; simp only [decide_eq_false_iff_not]; omega
                      rw [hE, rightX_f, decide_eq_true_eq] at r4; omega
                    · rw [if_neg h57] at hq
                      have hE : hasE s.k = true := by unfold hasE; simp only [decide_eq_true_eq]; omega
                      rw [hE, rightX_n (by omega)] at r4; cases r4)
                 | (rw [hE, rightX_t hlen hx] at r4; simp_all; done)
                 | (have hE : hasE s.k = true := by unfold hasE; simp only [decide_eq_true_eq]; omega
                    rw [hE] at r4
                    first
                      | (rw [rightX_t (by omega) hx] at r4; simp_all; done)
                      | (rw [rightX_n (by omega)] at r4; cases r4))
                 | (have hE : hasE s.k = false := by unfold hasE; simp only [decide_eq_false_iff_not]; omega
                    rw [hE, rightX_f, decide_eq_true_eq] at r4; omega))
            | (rw [rightS_iff]
               exact ⟨hA1, hA2, hA3, hA4, hA5, hA6, hA7.imp (fun h => ⟨h, by omega⟩) id, hA8, by rw [List.eq_nil_of_length_eq_zero (l := s.els) (by omega)]; rfl⟩)
            | (rw [Bool.eq_iff_iff, rightS_iff]
               constructor
               · rintro ⟨r1, r2, r3, r4, r5, r6, r7, r8, r9⟩
                 rw [r9]
                 rcases r7 with h | h
                 · omega
                 · simp; omega
               · intro h
                 simp only [Bool.and_eq_true, decide_eq_true_eq] at h
                 exact ⟨hA1, hA2, hA3, hA4, hA5, hA6, .inr (by omega), hA8, h.2⟩)
          ·
           intro hc122
           try simp only [dn] at hc122
           refine vc_code_skip ?_
           refine vq_meet () ⟨rfl, rfl, rfl, trivial⟩ st ?_
           ·
            refine ⟨?_, ?_⟩ <;> first | (left; assumption) | (right; omega)
         ·
          intro hg116
          try simp only [dn] at hg116
          iterate 4 refine vc_e (e_skip rfl rfl ?_)
          iterate 2 refine vc_y rfl rfl (y_pickf rfl rfl) ?_
          refine vc_end (vq_then (vc_keep [(1, _), (2, _), (7, _), (122, _)] ⟨rfl, rfl, rfl, rfl, trivial⟩ ?_))
          refine vc_iff rfl ?_
          refine vc_code_skip ?_
          refine vq_meet () ⟨rfl, rfl, rfl, trivial⟩ st ?_
          ·
           refine ⟨?_, ?_⟩ <;> first | (left; assumption) | (right; omega)
       ·
        clear st
        rintro ⟨⟩ w ⟨hA5, hA6⟩ st
        refine vc_cut (w0 := w0) (M := []) (fun (_ : Unit) => [(1, .int .i64 (d : Int)), (2, .pointer (some ⟨b2, 0, none⟩))]) (fun _ => [.blk b2 (.cells (smL s oe ob ol ce cb cl).toArray 70 (0, 0))]) (fun _ _ => (hasB s.k = false ∨ d < 64) ∧ rightSs s.body (d + 1) = true) ?_ ?_
        ·
         refine vc_seq (vc_region ?_)
         refine vc_y rfl rfl (y_mv rfl) ?_
         refine vc_e (e_mvb rfl rfl rfl ?_ ?_)
         ·
          intro hg124
          try simp only [dn] at hg124
          refine vc_y rfl rfl ((by exact y_faz (k := 4) rfl underlying70 rfl rfl sizeOf40 rfl)) ?_
          refine vc_y rfl rfl ((by exact y_ld st 0 rfl isAgg40 rfl rfl)) ?_
          refine vc_y rfl rfl (y_mv rfl) ?_
          refine vc_y rfl rfl (y_add rfl rfl (by omega : _ = ((d + 1 : Nat) : Int)) (by omega) (by omega)) ?_
          refine vc_e (e_call [_, _] rfl rfl call59 rfl (hrec _ (.inl rfl) _ _ _ (hsb.kept (Same.of_nil st.chg))) ?_)
          rintro _ w ⟨rfl, cw⟩
          replace st := st.call0 cw
          refine vc_y rfl rfl (y_not rfl) ?_
          refine vc_y rfl rfl (y_pickt rfl rfl) ?_
          refine vc_end (vq_then (vc_keep [(1, _), (2, _), (131, _)] ⟨rfl, rfl, rfl, trivial⟩ ?_))
          refine vc_ifs rfl ?_ ?_
          ·
           intro hc131
           try simp only [dn] at hc131
           refine vc_seq (vc_region ?_)
           refine vc_y rfl rfl (y_as rfl) ?_
           refine vc_end (vq_then (vc_keep [(4, _)] ⟨rfl, trivial⟩ (vc_ret (vq_then_ret ?_))))
           refine vq_ret1 st (.inl rfl) results89 (.tmp rfl) ?_
           refine ⟨_, rfl, ?_⟩
           refine ⟨?_, st.chg⟩
           show Value.bool _ = Value.bool _
           congr 1
           symm
           first
            | (rw [Bool.eq_false_iff]
               intro hR
               obtain ⟨r1, r2, r3, r4, r5, r6, r7, r8, r9⟩ := rightS_iff.1 hR
               unfold nmOk at r2 r3
               clear st hse hsb hsl hrec hok
               first
                 | omega
                 | (simp_all; done)
                 | (simp_all; omega)
                 | (have hq := ‹¬ ((s.e.length : Int) = if s.k = 5 ∨ s.k = 7 then 0 else 1)›
                    by_cases h57 : s.k = 5 ∨ s.k = 7
                    · rw [if_pos h57] at hq
                      have hE : hasE s.k = false := by unfold hasE; simp only [decide_eq_false_iff_not]; omega
                      rw [hE, rightX_f, decide_eq_true_eq] at r4; omega
                    · rw [if_neg h57] at hq
                      have hE : hasE s.k = true := by unfold hasE; simp only [decide_eq_true_eq]; omega
                      rw [hE, rightX_n (by omega)] at r4; cases r4)
                 | (rw [hE, rightX_t hlen hx] at r4; simp_all; done)
                 | (have hE : hasE s.k = true := by unfold hasE; simp only [decide_eq_true_eq]; omega
                    rw [hE] at r4
                    first
                      | (rw [rightX_t (by omega) hx] at r4; simp_all; done)
                      | (rw [rightX_n (by omega)] at r4; cases r4))
                 | (have hE : hasE s.k = false := by unfold hasE; simp only [decide_eq_false_iff_not]; omega
                    rw [hE, rightX_f, decide_eq_true_eq] at r4; omega))
            | (rw [rightS_iff]
               exact ⟨hA1, hA2, hA3, hA4, hA5, hA6, hA7.imp (fun h => ⟨h, by omega⟩) id, hA8, by rw [List.eq_nil_of_length_eq_zero (l := s.els) (by omega)]; rfl⟩)
            | (rw [Bool.eq_iff_iff, rightS_iff]
               constructor
               · rintro ⟨r1, r2, r3, r4, r5, r6, r7, r8, r9⟩
                 rw [r9]
                 rcases r7 with h | h
                 · omega
                 · simp; omega
               · intro h
                 simp only [Bool.and_eq_true, decide_eq_true_eq] at h
                 exact ⟨hA1, hA2, hA3, hA4, hA5, hA6, .inr (by omega), hA8, h.2⟩)
          ·
           intro hc131
           try simp only [dn] at hc131
           refine vc_code_skip ?_
           refine vq_meet () ⟨rfl, rfl, trivial⟩ st ?_
           ·
            first
             | exact ⟨.inl (by assumption), by rw [List.eq_nil_of_length_eq_zero (hA5.resolve_left (by rw [‹hasB s.k = false›]; simp))]; rfl⟩
             | (clear st hrec; simp_all; omega)
             | (clear st hrec; simp_all)
         ·
          intro hg124
          try simp only [dn] at hg124
          iterate 6 refine vc_e (e_skip rfl rfl ?_)
          refine vc_y rfl rfl (y_pickf rfl rfl) ?_
          refine vc_end (vq_then (vc_keep [(1, _), (2, _), (131, _)] ⟨rfl, rfl, rfl, trivial⟩ ?_))
          refine vc_iff rfl ?_
          refine vc_code_skip ?_
          refine vq_meet () ⟨rfl, rfl, trivial⟩ st ?_
          ·
           first
            | exact ⟨.inl (by assumption), by rw [List.eq_nil_of_length_eq_zero (hA5.resolve_left (by rw [‹hasB s.k = false›]; simp))]; rfl⟩
            | (clear st hrec; simp_all; omega)
            | (clear st hrec; simp_all)
        ·
         clear st
         rintro ⟨⟩ w ⟨hA7, hA8⟩ st
         refine vc_seq (vc_region ?_)
         refine vc_y rfl rfl ((by exact y_faz (k := 5) rfl underlying70 rfl rfl sizeOf40 rfl)) ?_
         refine vc_y rfl rfl ((by exact y_ld st 0 rfl isAgg40 rfl rfl)) ?_
         refine vc_y rfl rfl (y_lensl rfl underlying40) ?_
         refine vc_y rfl rfl (y_eqi rfl rfl) ?_
         refine vc_e (e_mvb rfl rfl rfl ?_ ?_)
         ·
          intro hg136
          try simp only [dn] at hg136
          iterate 5 refine vc_e (e_skip rfl rfl ?_)
          refine vc_y rfl rfl (y_pickt rfl rfl) ?_
          refine vc_y rfl rfl (y_as rfl) ?_
          refine vc_end (vq_then (vc_keep [(4, _)] ⟨rfl, trivial⟩ (vc_ret ?_)))
          refine vq_ret1 st (.inl rfl) results89 (.tmp rfl) ?_
          refine ⟨_, rfl, ?_⟩
          refine ⟨?_, st.chg⟩
          show Value.bool _ = Value.bool _
          congr 1
          symm
          first
           | (rw [Bool.eq_false_iff]
              intro hR
              obtain ⟨r1, r2, r3, r4, r5, r6, r7, r8, r9⟩ := rightS_iff.1 hR
              unfold nmOk at r2 r3
              clear st hse hsb hsl hrec hok
              first
                | omega
                | (simp_all; done)
                | (simp_all; omega)
                | (have hq := ‹¬ ((s.e.length : Int) = if s.k = 5 ∨ s.k = 7 then 0 else 1)›
                   by_cases h57 : s.k = 5 ∨ s.k = 7
                   · rw [if_pos h57] at hq
                     have hE : hasE s.k = false := by unfold hasE; simp only [decide_eq_false_iff_not]; omega
                     rw [hE, rightX_f, decide_eq_true_eq] at r4; omega
                   · rw [if_neg h57] at hq
                     have hE : hasE s.k = true := by unfold hasE; simp only [decide_eq_true_eq]; omega
                     rw [hE, rightX_n (by omega)] at r4; cases r4)
                | (rw [hE, rightX_t hlen hx] at r4; simp_all; done)
                | (have hE : hasE s.k = true := by unfold hasE; simp only [decide_eq_true_eq]; omega
                   rw [hE] at r4
                   first
                     | (rw [rightX_t (by omega) hx] at r4; simp_all; done)
                     | (rw [rightX_n (by omega)] at r4; cases r4))
                | (have hE : hasE s.k = false := by unfold hasE; simp only [decide_eq_false_iff_not]; omega
                   rw [hE, rightX_f, decide_eq_true_eq] at r4; omega))
           | (rw [rightS_iff]
              exact ⟨hA1, hA2, hA3, hA4, hA5, hA6, hA7.imp (fun h => ⟨h, by omega⟩) id, hA8, by rw [List.eq_nil_of_length_eq_zero (l := s.els) (by omega)]; rfl⟩)
           | (rw [Bool.eq_iff_iff, rightS_iff]
              constructor
              · rintro ⟨r1, r2, r3, r4, r5, r6, r7, r8, r9⟩
                rw [r9]
                rcases r7 with h | h
                · omega
                · simp; omega
              · intro h
                simp only [Bool.and_eq_true, decide_eq_true_eq] at h
                exact ⟨hA1, hA2, hA3, hA4, hA5, hA6, .inr (by omega), hA8, h.2⟩)
         ·
          intro hg136
          try simp only [dn] at hg136
          refine vc_y rfl rfl ((by exact y_faz (k := 5) rfl underlying70 rfl rfl sizeOf40 rfl)) ?_
          refine vc_y rfl rfl ((by exact y_ld st 0 rfl isAgg40 rfl rfl)) ?_
          refine vc_y rfl rfl (y_mv rfl) ?_
          refine vc_y rfl rfl (y_add rfl rfl (by omega : _ = ((d + 1 : Nat) : Int)) (by omega) (by omega)) ?_
          refine vc_e (e_call [_, _] rfl rfl call59 rfl (hrec _ (.inr rfl) _ _ _ (hsl.kept (Same.of_nil st.chg))) ?_)
          rintro _ w ⟨rfl, cw⟩
          replace st := st.call0 cw
          refine vc_y rfl rfl (y_pickf rfl rfl) ?_
          refine vc_y rfl rfl (y_as rfl) ?_
          refine vc_end (vq_then (vc_keep [(4, _)] ⟨rfl, trivial⟩ (vc_ret ?_)))
          refine vq_ret1 st (.inl rfl) results89 (.tmp rfl) ?_
          refine ⟨_, rfl, ?_⟩
          refine ⟨?_, st.chg⟩
          show Value.bool _ = Value.bool _
          congr 1
          symm
          first
           | (rw [Bool.eq_false_iff]
              intro hR
              obtain ⟨r1, r2, r3, r4, r5, r6, r7, r8, r9⟩ := rightS_iff.1 hR
              unfold nmOk at r2 r3
              clear st hse hsb hsl hrec hok
              first
                | omega
                | (simp_all; done)
                | (simp_all; omega)
                | (have hq := ‹¬ ((s.e.length : Int) = if s.k = 5 ∨ s.k = 7 then 0 else 1)›
                   by_cases h57 : s.k = 5 ∨ s.k = 7
                   · rw [if_pos h57] at hq
                     have hE : hasE s.k = false := by unfold hasE; simp only [decide_eq_false_iff_not]; omega
                     rw [hE, rightX_f, decide_eq_true_eq] at r4; omega
                   · rw [if_neg h57] at hq
                     have hE : hasE s.k = true := by unfold hasE; simp only [decide_eq_true_eq]; omega
                     rw [hE, rightX_n (by omega)] at r4; cases r4)
                | (rw [hE, rightX_t hlen hx] at r4; simp_all; done)
                | (have hE : hasE s.k = true := by unfold hasE; simp only [decide_eq_true_eq]; omega
                   rw [hE] at r4
                   first
                     | (rw [rightX_t (by omega) hx] at r4; simp_all; done)
                     | (rw [rightX_n (by omega)] at r4; cases r4))
                | (have hE : hasE s.k = false := by unfold hasE; simp only [decide_eq_false_iff_not]; omega
                   rw [hE, rightX_f, decide_eq_true_eq] at r4; omega))
           | (rw [rightS_iff]
              exact ⟨hA1, hA2, hA3, hA4, hA5, hA6, hA7.imp (fun h => ⟨h, by omega⟩) id, hA8, by rw [List.eq_nil_of_length_eq_zero (l := s.els) (by omega)]; rfl⟩)
           | (rw [Bool.eq_iff_iff, rightS_iff]
              constructor
              · rintro ⟨r1, r2, r3, r4, r5, r6, r7, r8, r9⟩
                rw [r9]
                rcases r7 with h | h
                · omega
                · simp; omega
              · intro h
                simp only [Bool.and_eq_true, decide_eq_true_eq] at h
                exact ⟨hA1, hA2, hA3, hA4, hA5, hA6, .inr (by omega), hA8, h.2⟩)

set_option maxHeartbeats 1000000 in
theorem rblock_any : ∀ (n : Nat) (ss : List Sm), szo ss = n → ∀ (d : Nat), d ≤ 1000 → ∀ (oa : Option Addr) (cap : Nat) (w : World), SmRow w S oa ss → OkSs ss → Ret Tryd.prog 59 [.slice oa ss.length cap, .int .i64 (d : Int)] w fun v w' => v = .bool (decide (d ≤ 64) && rightSs ss d) ∧ Chg [] w w' := by
 intro n
 refine Nat.strongRecOn n fun n ih => ?_
 intro ss hn d hd oa cap w hr hok
 subst hn
 have hssl := hok.1
 refine ret_of [_, _] func59 rfl ntmps59 rfl ?_
 have st := St.init w []
 obtain ⟨w0, rfl⟩ : ∃ w0, w0 = w := ⟨_, rfl⟩
 refine vc_seq (vc_region ?_)
 refine vc_y rfl rfl (y_as rfl) ?_
 refine vc_end (vq_then (vc_keep [(0, _), (1, _)] ⟨rfl, rfl, trivial⟩ (vc_seq (vc_seq (vc_region ?_)))))
 refine vc_y rfl rfl (y_mv rfl) ?_
 refine vc_y rfl rfl (y_gtr rfl rfl) ?_
 refine vc_end (vq_then (vc_keep [(0, _), (1, _), (7, _)] ⟨rfl, rfl, rfl, trivial⟩ ?_))
 refine vc_ifs rfl ?_ ?_
 ·
  intro hc7
  try simp only [dn] at hc7
  refine vc_seq (vc_region ?_)
  refine vc_y rfl rfl (y_as rfl) ?_
  refine vc_end (vq_then (vc_keep [(4, _)] ⟨rfl, trivial⟩ (vc_ret (vq_then_ret ?_))))
  refine vq_ret1 st (.inl rfl) results59 (.tmp rfl) ?_
  refine ⟨_, rfl, ?_⟩
  refine ⟨?_, st.chg⟩
  rw [decide_eq_false (by omega)]; rfl
 ·
  intro hc7
  try simp only [dn] at hc7
  refine vc_code_skip (vq_then (vc_keep [(0, _), (1, _)] ⟨rfl, rfl, trivial⟩ (vc_seq (vc_seq (vc_region ?_)))))
  refine vc_y rfl rfl (y_as rfl) ?_
  refine vc_end (vq_then (vc_keep [(0, _), (1, _), (5, _)] ⟨rfl, rfl, rfl, trivial⟩ (vc_block ?_)))
  refine vc_loop (w0 := w0) (M := []) (fun (j : Nat) => [(0, .slice oa ss.length cap), (1, .int .i64 (d : Int)), (5, .int .i64 (j : Int))]) (fun _ => []) (fun j _ => j ≤ ss.length ∧ (ss.take j).all (rightS · d) = true) (fun j => ss.length - j) 0 ⟨rfl, rfl, rfl, trivial⟩ st ⟨by omega, by simp⟩ ?_
  rintro j w ⟨hj, hall⟩ st
  refine vc_seq (vc_seq (vc_region ?_))
  iterate 2 refine vc_y rfl rfl (y_mv rfl) ?_
  refine vc_y rfl rfl (y_lensl rfl underlying40) ?_
  refine vc_y rfl rfl (y_lss rfl rfl) ?_
  refine vc_end (vq_then (vc_keep [(0, _), (1, _), (5, _), (11, _)] ⟨rfl, rfl, rfl, rfl, trivial⟩ ?_))
  refine vc_ifs rfl ?_ ?_
  ·
   intro hc11
   try simp only [dn] at hc11
   obtain ⟨s, hsj⟩ : ∃ s, ss[j]? = some s := ⟨_, List.getElem?_eq_getElem (by omega)⟩
   obtain ⟨gb, go, rfl, hgS, hgl, hg⟩ := SmRow.at hr (by omega)
   obtain ⟨oe, ob, ol, ce, cb, cl, hsV, hse, hsb, hsl, hc⟩ := hg j s hsj
   have hks := hok.2 j s hsj
   have hz := mem_size hsj
   refine vc_code_skip (vq_then (vc_keep [(0, _), (1, _), (5, _)] ⟨rfl, rfl, rfl, trivial⟩ (vc_seq (vc_block (vc_seq (vc_region ?_))))))
   iterate 2 refine vc_y rfl rfl (y_mv rfl) ?_
   refine vc_y rfl rfl ((by exact y_ia (k := j) rfl rfl underlying40 sizeOf70 rfl (by omega))) ?_
   refine vc_y rfl rfl ((by exact y_ldca (smL s oe ob ol ce cb cl) rfl isAgg70 sizeOf70 rfl (fun i v hi => st.chg.cell (hc i v hi) (by simp)))) ?_
   refine vc_y rfl rfl (y_mv rfl) ?_
   refine vc_e (e_call [_, _] rfl rfl call89 rfl (rstmt_any s d (by omega) oe ob ol ce cb cl _ (hse.kept (Same.of_nil st.chg)) (hsb.kept (Same.of_nil st.chg)) (hsl.kept (Same.of_nil st.chg)) hks (fun l hl oa cap w hr => ih (szo l) (by have := sm_kids s; rcases hl with h | h <;> subst h <;> omega) l rfl (d + 1) (by omega) oa cap w hr (by rcases hl with h | h <;> subst h; exact hks.body; exact hks.els))) ?_)
   rintro _ w ⟨rfl, cw⟩
   replace st := st.call0 cw
   refine vc_y rfl rfl (y_not rfl) ?_
   refine vc_end (vq_then (vc_keep [(0, _), (1, _), (5, _), (20, _)] ⟨rfl, rfl, rfl, rfl, trivial⟩ ?_))
   refine vc_ifs rfl ?_ ?_
   ·
    intro hc20
    try simp only [dn] at hc20
    refine vc_seq (vc_region ?_)
    refine vc_y rfl rfl (y_as rfl) ?_
    refine vc_end (vq_then (vc_keep [(4, _)] ⟨rfl, trivial⟩ (vc_ret (vq_block_ret (vq_then_ret (vq_then_ret (vq_block_ret (vq_then_ret ?_))))))))
    refine vq_ret1 st (.inl rfl) results59 (.tmp rfl) ?_
    refine ⟨_, rfl, ?_⟩
    refine ⟨?_, st.chg⟩
    rw [decide_eq_true (by omega), Bool.true_and]
    first
     | rw [rightSs_eq, all_end hall (by omega)]
     | rw [rightSs_no (by assumption) hsj]
   ·
    intro hc20
    try simp only [dn] at hc20
    refine vc_code_skip (vq_block (vq_then (vc_keep [(0, _), (1, _), (5, _)] ⟨rfl, rfl, rfl, trivial⟩ (vc_region ?_))))
    refine vc_y rfl rfl (y_mv rfl) ?_
    refine vc_y rfl rfl (y_add rfl rfl (by omega : _ = ((j + 1 : Nat) : Int)) (by omega) (by omega)) ?_
    refine vc_y rfl rfl (y_as rfl) ?_
    refine vc_end ?_
    refine vq_again (j + 1)  ⟨rfl, rfl, rfl, trivial⟩ (st.drop (by repeat (first | exact sl0 | apply sl1 | apply sl2))) ?_ ?_
    ·
     exact ⟨by omega, all_take' hall hsj (by assumption)⟩
    ·
     omega
  ·
   intro hc11
   try simp only [dn] at hc11
   refine vc_exit (vq_then_exit (vq_then_exit (vq_block_exit (vq_then (vc_keep [] trivial (vc_seq (vc_region ?_)))))))
   refine vc_y rfl rfl (y_as rfl) ?_
   refine vc_end (vq_then (vc_keep [(4, _)] ⟨rfl, trivial⟩ (vc_ret ?_)))
   refine vq_ret1 st (.inl rfl) results59 (.tmp rfl) ?_
   refine ⟨_, rfl, ?_⟩
   refine ⟨?_, st.chg⟩
   rw [decide_eq_true (by omega), Bool.true_and]
   first
    | rw [rightSs_eq, all_end hall (by omega)]
    | rw [rightSs_no (by assumption) hsj]

end
end Go.Proofs.YtnmhlpnapgojjaaDoor
