/- A part of the proof: contracts of functions and plain laws; each theorem says its own conditions. -/
import Derived.Test.YtnmhlpnapgojjaaGreatDoorPrettyNamesK1
import Derived.Test.YtnmhlpnapgojjaaGreatDoorPrettyNamesK4
import Derived.Test.YtnmhlpnapgojjaaGreatDoorPrettyNamesK6
import Derived.Test.YtnmhlpnapgojjaaGreatDoorPrettyNamesK3
set_option linter.unusedVariables false
set_option linter.unusedSimpArgs false
namespace Go.Proofs.YtnmhlpnapgojjaaGreatDoor
open Go.RowKit Sx LexS _root_.Go.Proofs.Tryz
section
variable {S : Nat → Prop}

set_option maxHeartbeats 4000000 in
theorem rstmt_any (s : Sm) (d : Nat) (hd : d ≤ 64) (oe ob ol : Option Addr) (ce cb cl : Nat) (w : World) (hse : ExRow w S oe s.e) (hsb : SmRow w S ob s.body) (hsl : SmRow w S ol s.els) (hok : OkS s)
    (hrec : ∀ (l : List Sm), (l = s.body ∨ l = s.els) → ∀ (oa : Option Addr) (cap : Nat) (w : World), SmRow w S oa l → Ret Tryz.prog 122 [.slice oa l.length cap, .int .i64 ((d + 1 : Nat) : Int)] w fun v w' => v = .bool (decide (d + 1 ≤ 64) && rightSs l (d + 1)) ∧ Chg [] w w') :
  Ret Tryz.prog 159 [.agg (smL s oe ob ol ce cb cl).toArray, .int .i64 (d : Int)] w fun v w' => v = .bool (rightS s d) ∧ Chg [] w w' := by
 refine ret_of [_, _] func159 rfl ntmps159 rfl ?_
 have st := St.init w []
 obtain ⟨w0, rfl⟩ : ∃ w0, w0 = w := ⟨_, rfl⟩
 have hku := hok.k
 unfold u8 at hku
 refine vc_seq (vc_region ?_)
 refine vc_e (e_bx (l := [_, _, _, _, _, _, _]) st rfl rfl rfl rfl ?_)
 intro b2 w hb2 st
 refine ya ?_
 refine vc_end (vq_then (vk2 1 2 ?_))
 refine vc_cut (w0 := w0) (M := []) (fun (_ : Unit) => [(1, .int .i64 (d : Int)), (2, .pointer (some ⟨b2, 0, none⟩)), (5, .bool (hasN s.k))]) (fun _ => [.blk b2 (.cells (smL s oe ob ol ce cb cl).toArray 67 (0, 0))]) (fun _ _ => True) ?_ ?_
 ·refine vc_region ?_
  refine vy (y_fa0 rfl underlying67 rfl rfl sizeOf64 rfl) ?_
  refine yl st 0 isAgg64 ?_
  refine vy (y_eqi rfl rfl) ?_
  refine vmb ?_ ?_
  ·intro hg11
   try simp only [dn] at hg11
   iterate 3 refine vsk ?_
   refine ypt ?_
   refine ym ?_
   iterate 3 refine vsk ?_
   refine ypt ?_
   refine ya ?_
   refine vc_end ?_
   refine vq_meet () ⟨rfl, rfl, (by (simp only [Sx.put, find, Nat.beq]; congr 2; unfold hasN; rw [Bool.eq_iff_iff]; simp only [decide_eq_true_eq]; (try simp only [Bool.false_eq_true, false_iff, true_iff]); omega)), trivial⟩ st ?_
   ·trivial
  ·intro hg11
   try simp only [dn] at hg11
   refine vy (y_fa0 rfl underlying67 rfl rfl sizeOf64 rfl) ?_
   refine yl st 0 isAgg64 ?_
   refine vy (y_eqi rfl rfl) ?_
   refine ypf ?_
   refine vmb ?_ ?_
   ·intro hg16
    try simp only [dn] at hg16
    iterate 3 refine vsk ?_
    refine ypt ?_
    refine ya ?_
    refine vc_end ?_
    refine vq_meet () ⟨rfl, rfl, (by (simp only [Sx.put, find, Nat.beq]; congr 2; unfold hasN; rw [Bool.eq_iff_iff]; simp only [decide_eq_true_eq]; (try simp only [Bool.false_eq_true, false_iff, true_iff]); omega)), trivial⟩ st ?_
    ·trivial
   ·intro hg16
    try simp only [dn] at hg16
    refine vy (y_fa0 rfl underlying67 rfl rfl sizeOf64 rfl) ?_
    refine yl st 0 isAgg64 ?_
    refine vy (y_eqi rfl rfl) ?_
    refine ypf ?_
    refine ya ?_
    refine vc_end ?_
    refine vq_meet () ⟨rfl, rfl, (by (simp only [Sx.put, find, Nat.beq]; congr 2; unfold hasN; rw [Bool.eq_iff_iff]; simp only [decide_eq_true_eq]; (try simp only [Bool.false_eq_true, false_iff, true_iff]); omega)), trivial⟩ st ?_
    ·trivial
 ·clear st
  rintro ⟨⟩ w - st
  refine vc_cut (w0 := w0) (M := []) (fun (_ : Unit) => [(1, .int .i64 (d : Int)), (2, .pointer (some ⟨b2, 0, none⟩))]) (fun _ => [.blk b2 (.cells (smL s oe ob ol ce cb cl).toArray 67 (0, 0))]) (fun _ _ => nmOk (hasN s.k) s.nm = true) ?_ ?_
  ·refine vc_seq (vc_region ?_)
   refine ym ?_
   refine vmb ?_ ?_
   ·intro hg22
    try simp only [dn] at hg22
    refine yfz 1 underlying67 sizeOf9 ?_
    refine yl st 0 isAgg9 ?_
    refine vc_e (e_call [_] rfl rfl call58 rfl (rname_any _ _) ?_)
    rintro _ _ ⟨rfl, rfl⟩
    refine vy (y_not rfl) ?_
    refine ypt ?_
    refine vmb ?_ ?_
    ·intro hg28
     try simp only [dn] at hg28
     iterate 7 refine vsk ?_
     refine ypt ?_
     refine vc_end (vq_then (vk3 1 2 36 ?_))
     refine vc_ift rfl ?_
     refine vc_seq (vc_region ?_)
     refine ya ?_
     refine vc_end (vq_then (vk1 4 (vc_ret (vq_then_ret ?_))))
     refine vq_ret1 st (.inl rfl) results159 (.tmp rfl) ?_
     refine ⟨_, rfl, ?_⟩
     refine ⟨?_, st.chg⟩
     show Value.bool _ = Value.bool _
     congr 1
     symm
     first
      | (rw [Bool.eq_false_iff]
         intro hR
         obtain ⟨r1, r2, r3, r4, r5, r6, r7, r8, r9⟩ := rightS_iff.1 hR
         unfold nmOk at r2 r3
         clear st hse hsb hsl hrec hok
         (simp_all; done))
    ·intro hg28
     try simp only [dn] at hg28
     refine ym ?_
     refine vy (y_not rfl) ?_
     refine vmb ?_ ?_
     ·intro hg31
      try simp only [dn] at hg31
      refine yfz 1 underlying67 sizeOf9 ?_
      refine yl st 0 isAgg9 ?_
      refine vy (y_nes rfl rfl) ?_
      refine ypt ?_
      refine ypf ?_
      refine vc_end (vq_then (vk3 1 2 36 ?_))
      refine vc_ifs rfl ?_ ?_
      ·intro hc36
       try simp only [dn] at hc36
       refine vc_seq (vc_region ?_)
       refine ya ?_
       refine vc_end (vq_then (vk1 4 (vc_ret (vq_then_ret ?_))))
       refine vq_ret1 st (.inl rfl) results159 (.tmp rfl) ?_
       refine ⟨_, rfl, ?_⟩
       refine ⟨?_, st.chg⟩
       show Value.bool _ = Value.bool _
       congr 1
       symm
       first
        | (rw [Bool.eq_false_iff]
           intro hR
           obtain ⟨r1, r2, r3, r4, r5, r6, r7, r8, r9⟩ := rightS_iff.1 hR
           unfold nmOk at r2 r3
           clear st hse hsb hsl hrec hok
           (simp_all; done))
      ·intro hc36
       try simp only [dn] at hc36
       refine vc_code_skip ?_
       refine vq_meet () ⟨rfl, rfl, trivial⟩ st ?_
       ·unfold nmOk; clear st hrec; simp_all
     ·intro hg31
      try simp only [dn] at hg31
      iterate 3 refine vsk ?_
      iterate 2 refine ypf ?_
      refine vc_end (vq_then (vk3 1 2 36 ?_))
      refine vc_iff rfl ?_
      refine vc_code_skip ?_
      refine vq_meet () ⟨rfl, rfl, trivial⟩ st ?_
      ·unfold nmOk; clear st hrec; simp_all
   ·intro hg22
    try simp only [dn] at hg22
    iterate 4 refine vsk ?_
    refine ypf ?_
    iterate 2 refine ym ?_
    refine vy (y_not rfl) ?_
    refine vmb ?_ ?_
    ·intro hg31
     try simp only [dn] at hg31
     refine yfz 1 underlying67 sizeOf9 ?_
     refine yl st 0 isAgg9 ?_
     refine vy (y_nes rfl rfl) ?_
     refine ypt ?_
     refine ypf ?_
     refine vc_end (vq_then (vk3 1 2 36 ?_))
     refine vc_ifs rfl ?_ ?_
     ·intro hc36
      try simp only [dn] at hc36
      refine vc_seq (vc_region ?_)
      refine ya ?_
      refine vc_end (vq_then (vk1 4 (vc_ret (vq_then_ret ?_))))
      refine vq_ret1 st (.inl rfl) results159 (.tmp rfl) ?_
      refine ⟨_, rfl, ?_⟩
      refine ⟨?_, st.chg⟩
      show Value.bool _ = Value.bool _
      congr 1
      symm
      first
       | (rw [Bool.eq_false_iff]
          intro hR
          obtain ⟨r1, r2, r3, r4, r5, r6, r7, r8, r9⟩ := rightS_iff.1 hR
          unfold nmOk at r2 r3
          clear st hse hsb hsl hrec hok
          (simp_all; done))
     ·intro hc36
      try simp only [dn] at hc36
      refine vc_code_skip ?_
      refine vq_meet () ⟨rfl, rfl, trivial⟩ st ?_
      ·unfold nmOk; clear st hrec; simp_all
    ·intro hg31
     try simp only [dn] at hg31
     iterate 3 refine vsk ?_
     iterate 2 refine ypf ?_
     refine vc_end (vq_then (vk3 1 2 36 ?_))
     refine vc_iff rfl ?_
     refine vc_code_skip ?_
     refine vq_meet () ⟨rfl, rfl, trivial⟩ st ?_
     ·unfold nmOk; clear st hrec; simp_all
  ·clear st
   rintro ⟨⟩ w hA2 st
   refine vc_cut (w0 := w0) (M := []) (fun (_ : Unit) => [(1, .int .i64 (d : Int)), (2, .pointer (some ⟨b2, 0, none⟩))]) (fun _ => [.blk b2 (.cells (smL s oe ob ol ce cb cl).toArray 67 (0, 0))]) (fun _ _ => nmOk (decide (s.k = 2)) s.other = true) ?_ ?_
   ·refine vc_seq (vc_region ?_)
    refine vy (y_fa0 rfl underlying67 rfl rfl sizeOf64 rfl) ?_
    refine yl st 0 isAgg64 ?_
    refine vy (y_eqi rfl rfl) ?_
    refine vmb ?_ ?_
    ·intro hg40
     try simp only [dn] at hg40
     refine yfz 2 underlying67 sizeOf9 ?_
     refine yl st 0 isAgg9 ?_
     refine vc_e (e_call [_] rfl rfl call58 rfl (rname_any _ _) ?_)
     rintro _ _ ⟨rfl, rfl⟩
     refine vy (y_not rfl) ?_
     refine ypt ?_
     refine vmb ?_ ?_
     ·intro hg46
      try simp only [dn] at hg46
      iterate 8 refine vsk ?_
      refine ypt ?_
      refine vc_end (vq_then (vk3 1 2 55 ?_))
      refine vc_ift rfl ?_
      refine vc_seq (vc_region ?_)
      refine ya ?_
      refine vc_end (vq_then (vk1 4 (vc_ret (vq_then_ret ?_))))
      refine vq_ret1 st (.inl rfl) results159 (.tmp rfl) ?_
      refine ⟨_, rfl, ?_⟩
      refine ⟨?_, st.chg⟩
      show Value.bool _ = Value.bool _
      congr 1
      symm
      first
       | (rw [Bool.eq_false_iff]
          intro hR
          obtain ⟨r1, r2, r3, r4, r5, r6, r7, r8, r9⟩ := rightS_iff.1 hR
          unfold nmOk at r2 r3
          clear st hse hsb hsl hrec hok
          (simp_all; done))
     ·intro hg46
      try simp only [dn] at hg46
      refine vy (y_fa0 rfl underlying67 rfl rfl sizeOf64 rfl) ?_
      refine yl st 0 isAgg64 ?_
      refine vy (y_nei rfl rfl) ?_
      refine vmb ?_ ?_
      ·intro hg50
       try simp only [dn] at hg50
       refine yfz 2 underlying67 sizeOf9 ?_
       refine yl st 0 isAgg9 ?_
       refine vy (y_nes rfl rfl) ?_
       refine ypt ?_
       refine ypf ?_
       refine vc_end (vq_then (vk3 1 2 55 ?_))
       refine vc_ifs rfl ?_ ?_
       ·intro hc55
        try simp only [dn] at hc55
        refine vc_seq (vc_region ?_)
        refine ya ?_
        refine vc_end (vq_then (vk1 4 (vc_ret (vq_then_ret ?_))))
        refine vq_ret1 st (.inl rfl) results159 (.tmp rfl) ?_
        refine ⟨_, rfl, ?_⟩
        refine ⟨?_, st.chg⟩
        show Value.bool _ = Value.bool _
        congr 1
        symm
        first
         | (rw [Bool.eq_false_iff]
            intro hR
            obtain ⟨r1, r2, r3, r4, r5, r6, r7, r8, r9⟩ := rightS_iff.1 hR
            unfold nmOk at r2 r3
            clear st hse hsb hsl hrec hok
            omega)
       ·intro hc55
        try simp only [dn] at hc55
        refine vc_code_skip ?_
        refine vq_meet () ⟨rfl, rfl, trivial⟩ st ?_
        ·unfold nmOk; clear st hrec; simp_all
      ·intro hg50
       try simp only [dn] at hg50
       iterate 3 refine vsk ?_
       iterate 2 refine ypf ?_
       refine vc_end (vq_then (vk3 1 2 55 ?_))
       refine vc_iff rfl ?_
       refine vc_code_skip ?_
       refine vq_meet () ⟨rfl, rfl, trivial⟩ st ?_
       ·unfold nmOk; clear st hrec; simp_all
    ·intro hg40
     try simp only [dn] at hg40
     iterate 4 refine vsk ?_
     refine ypf ?_
     refine ym ?_
     refine vy (y_fa0 rfl underlying67 rfl rfl sizeOf64 rfl) ?_
     refine yl st 0 isAgg64 ?_
     refine vy (y_nei rfl rfl) ?_
     refine vmb ?_ ?_
     ·intro hg50
      try simp only [dn] at hg50
      refine yfz 2 underlying67 sizeOf9 ?_
      refine yl st 0 isAgg9 ?_
      refine vy (y_nes rfl rfl) ?_
      refine ypt ?_
      refine ypf ?_
      refine vc_end (vq_then (vk3 1 2 55 ?_))
      refine vc_ifs rfl ?_ ?_
      ·intro hc55
       try simp only [dn] at hc55
       refine vc_seq (vc_region ?_)
       refine ya ?_
       refine vc_end (vq_then (vk1 4 (vc_ret (vq_then_ret ?_))))
       refine vq_ret1 st (.inl rfl) results159 (.tmp rfl) ?_
       refine ⟨_, rfl, ?_⟩
       refine ⟨?_, st.chg⟩
       show Value.bool _ = Value.bool _
       congr 1
       symm
       first
        | (rw [Bool.eq_false_iff]
           intro hR
           obtain ⟨r1, r2, r3, r4, r5, r6, r7, r8, r9⟩ := rightS_iff.1 hR
           unfold nmOk at r2 r3
           clear st hse hsb hsl hrec hok
           (simp_all; done))
      ·intro hc55
       try simp only [dn] at hc55
       refine vc_code_skip ?_
       refine vq_meet () ⟨rfl, rfl, trivial⟩ st ?_
       ·unfold nmOk; clear st hrec; simp_all
     ·intro hg50
      try simp only [dn] at hg50
      iterate 3 refine vsk ?_
      iterate 2 refine ypf ?_
      refine vc_end (vq_then (vk3 1 2 55 ?_))
      refine vc_iff rfl ?_
      refine vc_code_skip ?_
      refine vq_meet () ⟨rfl, rfl, trivial⟩ st ?_
      ·unfold nmOk; clear st hrec; simp_all
   ·clear st
    rintro ⟨⟩ w hA3 st
    refine vc_seq (vc_region ?_)
    refine ya ?_
    refine vc_end (vq_then (vk3 1 2 6 ?_))
    refine vc_cut (w0 := w0) (M := []) (fun (_ : Unit) => [(1, .int .i64 (d : Int)), (2, .pointer (some ⟨b2, 0, none⟩)), (6, .int .i64 (if s.k = 5 ∨ s.k = 7 then 0 else 1))]) (fun _ => [.blk b2 (.cells (smL s oe ob ol ce cb cl).toArray 67 (0, 0))]) (fun _ _ => True) ?_ ?_
    ·refine vc_seq (vc_region ?_)
     refine vy (y_fa0 rfl underlying67 rfl rfl sizeOf64 rfl) ?_
     refine yl st 0 isAgg64 ?_
     refine vy (y_eqi rfl rfl) ?_
     refine vmb ?_ ?_
     ·intro hg59
      try simp only [dn] at hg59
      iterate 3 refine vsk ?_
      refine ypt ?_
      refine vc_end (vq_then (vk4 1 2 6 63 ?_))
      refine vc_ift rfl ?_
      refine vc_region ?_
      refine ya ?_
      refine vc_end ?_
      refine vq_meet () ⟨rfl, rfl, by simp only [Sx.put, find, Nat.beq]; rw [if_pos (by omega)], trivial⟩ st ?_
      ·trivial
     ·intro hg59
      try simp only [dn] at hg59
      refine vy (y_fa0 rfl underlying67 rfl rfl sizeOf64 rfl) ?_
      refine yl st 0 isAgg64 ?_
      refine vy (y_eqi rfl rfl) ?_
      refine ypf ?_
      refine vc_end (vq_then (vk4 1 2 6 63 ?_))
      refine vc_ifs rfl ?_ ?_
      ·intro hc63
       try simp only [dn] at hc63
       refine vc_region ?_
       refine ya ?_
       refine vc_end ?_
       refine vq_meet () ⟨rfl, rfl, by simp only [Sx.put, find, Nat.beq]; rw [if_pos (by omega)], trivial⟩ st ?_
       ·trivial
      ·intro hc63
       try simp only [dn] at hc63
       refine vc_code_skip ?_
       refine vq_meet () ⟨rfl, rfl, by simp only [Sx.put, find, Nat.beq]; rw [if_neg (by omega)], trivial⟩ st ?_
       ·trivial
    ·clear st
     rintro ⟨⟩ w - st
     refine vc_cut (w0 := w0) (M := []) (fun (_ : Unit) => [(1, .int .i64 (d : Int)), (2, .pointer (some ⟨b2, 0, none⟩))]) (fun _ => [.blk b2 (.cells (smL s oe ob ol ce cb cl).toArray 67 (0, 0))]) (fun _ _ => (1 ≤ s.k ∧ s.k ≤ 7) ∧ rightX (hasE s.k) s.e = true) ?_ ?_
     ·refine vc_seq (vc_region ?_)
      refine vy (y_fa0 rfl underlying67 rfl rfl sizeOf64 rfl) ?_
      refine yl st 0 isAgg64 ?_
      refine vy (y_leq rfl rfl) ?_
      refine vmb ?_ ?_
      ·intro hg67
       try simp only [dn] at hg67
       iterate 3 refine vsk ?_
       refine ypt ?_
       refine ym ?_
       iterate 5 refine vsk ?_
       refine ypt ?_
       refine ym ?_
       iterate 10 refine vsk ?_
       refine ypt ?_
       refine vc_end (vq_then (vk3 1 2 90 ?_))
       refine vc_ift rfl ?_
       refine vc_seq (vc_region ?_)
       refine ya ?_
       refine vc_end (vq_then (vk1 4 (vc_ret (vq_then_ret ?_))))
       refine vq_ret1 st (.inl rfl) results159 (.tmp rfl) ?_
       refine ⟨_, rfl, ?_⟩
       refine ⟨?_, st.chg⟩
       show Value.bool _ = Value.bool _
       congr 1
       symm
       first
        | (rw [Bool.eq_false_iff]
           intro hR
           obtain ⟨r1, r2, r3, r4, r5, r6, r7, r8, r9⟩ := rightS_iff.1 hR
           unfold nmOk at r2 r3
           clear st hse hsb hsl hrec hok
           omega)
      ·intro hg67
       try simp only [dn] at hg67
       refine vy (y_fa0 rfl underlying67 rfl rfl sizeOf64 rfl) ?_
       refine yl st 0 isAgg64 ?_
       refine vy (y_geq rfl rfl) ?_
       refine ypf ?_
       refine vmb ?_ ?_
       ·intro hg72
        try simp only [dn] at hg72
        iterate 5 refine vsk ?_
        refine ypt ?_
        refine ym ?_
        iterate 10 refine vsk ?_
        refine ypt ?_
        refine vc_end (vq_then (vk3 1 2 90 ?_))
        refine vc_ift rfl ?_
        refine vc_seq (vc_region ?_)
        refine ya ?_
        refine vc_end (vq_then (vk1 4 (vc_ret (vq_then_ret ?_))))
        refine vq_ret1 st (.inl rfl) results159 (.tmp rfl) ?_
        refine ⟨_, rfl, ?_⟩
        refine ⟨?_, st.chg⟩
        show Value.bool _ = Value.bool _
        congr 1
        symm
        first
         | (rw [Bool.eq_false_iff]
            intro hR
            obtain ⟨r1, r2, r3, r4, r5, r6, r7, r8, r9⟩ := rightS_iff.1 hR
            unfold nmOk at r2 r3
            clear st hse hsb hsl hrec hok
            omega)
       ·intro hg72
        try simp only [dn] at hg72
        refine yfz 3 underlying67 sizeOf40 ?_
        refine yl st 0 isAgg40 ?_
        refine vy (y_lensl rfl underlying40) ?_
        refine ym ?_
        refine vy (y_nei rfl rfl) ?_
        refine ypf ?_
        refine vmb ?_ ?_
        ·intro hg79
         try simp only [dn] at hg79
         iterate 10 refine vsk ?_
         refine ypt ?_
         refine vc_end (vq_then (vk3 1 2 90 ?_))
         refine vc_ift rfl ?_
         refine vc_seq (vc_region ?_)
         refine ya ?_
         refine vc_end (vq_then (vk1 4 (vc_ret (vq_then_ret ?_))))
         refine vq_ret1 st (.inl rfl) results159 (.tmp rfl) ?_
         refine ⟨_, rfl, ?_⟩
         refine ⟨?_, st.chg⟩
         show Value.bool _ = Value.bool _
         congr 1
         symm
         first
          | (rw [Bool.eq_false_iff]
             intro hR
             obtain ⟨r1, r2, r3, r4, r5, r6, r7, r8, r9⟩ := rightS_iff.1 hR
             unfold nmOk at r2 r3
             clear st hse hsb hsl hrec hok
             first
               | (have hq := ‹¬ ((s.e.length : Int) = if s.k = 5 ∨ s.k = 7 then 0 else 1)›
                  by_cases h57 : s.k = 5 ∨ s.k = 7
                  · rw [if_pos h57] at hq
                    have hE : hasE s.k = false := by unfold hasE; simp only [decide_eq_false_iff_not]; omega
                    rw [hE, rightX_f, decide_eq_true_eq] at r4; omega
                  · rw [if_neg h57] at hq
                    have hE : hasE s.k = true := by unfold hasE; simp only [decide_eq_true_eq]; omega
                    rw [hE, rightX_n (by omega)] at r4; cases r4))
        ·intro hg79
         try simp only [dn] at hg79
         refine ym ?_
         refine vy (y_eqi rfl rfl) ?_
         refine vmb ?_ ?_
         ·intro hg82
          try simp only [dn] at hg82
          have hq : ¬ (s.k = 5 ∨ s.k = 7) := by intro h; rw [if_pos h] at hg82; omega
          rw [if_neg hq] at hg79
          have hlen : s.e.length = 1 := by omega
          have hE : hasE s.k = true := by unfold hasE; simp only [decide_eq_true_eq]; omega
          obtain ⟨x, hx⟩ := get0 (l := s.e) (n := s.e.length) rfl (by omega)
          obtain ⟨eb, eo, rfl, heS, hel, heg⟩ := ExRow.at hse (by omega)
          obtain ⟨o0, c0, hV0, hr0, hc0⟩ := heg 0 x hx
          refine yfz 3 underlying67 sizeOf40 ?_
          refine yl st 0 isAgg40 ?_
          refine vy (y_ia (k := 0) rfl rfl underlying40 sizeOf42 rfl (by omega)) ?_
          refine vy (y_ldca (exL x o0 c0) rfl isAgg42 sizeOf42 rfl (fun i v hi => st.chg.cell (hc0 i v hi) (by simp))) ?_
          refine vc_e (e_call [_, _] rfl rfl call208 rfl (rexpr_any _ x rfl 0 _ _ (hV0.kept (Same.of_nil st.chg)) (hok.e.2 0 x hx) (by omega)) ?_)
          rintro _ w ⟨rfl, cw⟩
          replace st := st.call0 cw
          refine vy (y_not rfl) ?_
          refine ypt ?_
          refine ypf ?_
          refine vc_end (vq_then (vk3 1 2 90 ?_))
          refine vc_ifs rfl ?_ ?_
          ·intro hc90
           try simp only [dn] at hc90
           refine vc_seq (vc_region ?_)
           refine ya ?_
           refine vc_end (vq_then (vk1 4 (vc_ret (vq_then_ret ?_))))
           refine vq_ret1 st (.inl rfl) results159 (.tmp rfl) ?_
           refine ⟨_, rfl, ?_⟩
           refine ⟨?_, st.chg⟩
           show Value.bool _ = Value.bool _
           congr 1
           symm
           first
            | (rw [Bool.eq_false_iff]
               intro hR
               obtain ⟨r1, r2, r3, r4, r5, r6, r7, r8, r9⟩ := rightS_iff.1 hR
               unfold nmOk at r2 r3
               clear st hse hsb hsl hrec hok
               (rw [hE, rightX_t hlen hx] at r4; simp_all; done))
          ·intro hc90
           try simp only [dn] at hc90
           refine vc_code_skip ?_
           refine vq_meet () ⟨rfl, rfl, trivial⟩ st ?_
           ·refine ⟨⟨by omega, by omega⟩, ?_⟩
            (rw [hE, rightX_t hlen hx]; assumption)
         ·intro hg82
          try simp only [dn] at hg82
          have hq : s.k = 5 ∨ s.k = 7 := by
           by_cases h : s.k = 5 ∨ s.k = 7
           ·exact h
           ·rw [if_neg h] at hg82; omega
          rw [if_pos hq] at hg79
          have hE : hasE s.k = false := by unfold hasE; simp only [decide_eq_false_iff_not]; omega
          iterate 6 refine vsk ?_
          iterate 2 refine ypf ?_
          refine vc_end (vq_then (vk3 1 2 90 ?_))
          refine vc_iff rfl ?_
          refine vc_code_skip ?_
          refine vq_meet () ⟨rfl, rfl, trivial⟩ st ?_
          ·refine ⟨⟨by omega, by omega⟩, ?_⟩
           (rw [hE, rightX_f, decide_eq_true_eq]; omega)
     ·clear st
      rintro ⟨⟩ w ⟨hA1, hA4⟩ st
      refine vc_cut (w0 := w0) (M := []) (fun (_ : Unit) => [(1, .int .i64 (d : Int)), (2, .pointer (some ⟨b2, 0, none⟩)), (7, .bool (hasB s.k))]) (fun _ => [.blk b2 (.cells (smL s oe ob ol ce cb cl).toArray 67 (0, 0))]) (fun _ _ => True) ?_ ?_
      ·refine vc_region ?_
       refine vy (y_fa0 rfl underlying67 rfl rfl sizeOf64 rfl) ?_
       refine yl st 0 isAgg64 ?_
       refine vy (y_eqi rfl rfl) ?_
       refine vmb ?_ ?_
       ·intro hg94
        try simp only [dn] at hg94
        iterate 3 refine vsk ?_
        refine ypt ?_
        refine ym ?_
        iterate 3 refine vsk ?_
        refine ypt ?_
        refine ya ?_
        refine vc_end ?_
        refine vq_meet () ⟨rfl, rfl, (by (simp only [Sx.put, find, Nat.beq]; congr 2; unfold hasB; rw [Bool.eq_iff_iff]; simp only [decide_eq_true_eq]; (try simp only [Bool.false_eq_true, false_iff, true_iff]); omega)), trivial⟩ st ?_
        ·trivial
       ·intro hg94
        try simp only [dn] at hg94
        refine vy (y_fa0 rfl underlying67 rfl rfl sizeOf64 rfl) ?_
        refine yl st 0 isAgg64 ?_
        refine vy (y_eqi rfl rfl) ?_
        refine ypf ?_
        refine vmb ?_ ?_
        ·intro hg99
         try simp only [dn] at hg99
         iterate 3 refine vsk ?_
         refine ypt ?_
         refine ya ?_
         refine vc_end ?_
         refine vq_meet () ⟨rfl, rfl, (by (simp only [Sx.put, find, Nat.beq]; congr 2; unfold hasB; rw [Bool.eq_iff_iff]; simp only [decide_eq_true_eq]; (try simp only [Bool.false_eq_true, false_iff, true_iff]); omega)), trivial⟩ st ?_
         ·trivial
        ·intro hg99
         try simp only [dn] at hg99
         refine vy (y_fa0 rfl underlying67 rfl rfl sizeOf64 rfl) ?_
         refine yl st 0 isAgg64 ?_
         refine vy (y_eqi rfl rfl) ?_
         refine ypf ?_
         refine ya ?_
         refine vc_end ?_
         refine vq_meet () ⟨rfl, rfl, (by (simp only [Sx.put, find, Nat.beq]; congr 2; unfold hasB; rw [Bool.eq_iff_iff]; simp only [decide_eq_true_eq]; (try simp only [Bool.false_eq_true, false_iff, true_iff]); omega)), trivial⟩ st ?_
         ·trivial
      ·clear st
       rintro ⟨⟩ w - st
       refine vc_cut (w0 := w0) (M := []) (fun (_ : Unit) => [(1, .int .i64 (d : Int)), (2, .pointer (some ⟨b2, 0, none⟩)), (7, .bool (hasB s.k))]) (fun _ => [.blk b2 (.cells (smL s oe ob ol ce cb cl).toArray 67 (0, 0))]) (fun _ _ => (hasB s.k = true ∨ s.body.length = 0) ∧ (s.k = 3 ∨ s.els.length = 0)) ?_ ?_
       ·refine vc_seq (vc_region ?_)
        refine ym ?_
        refine vy (y_not rfl) ?_
        refine vmb ?_ ?_
        ·intro hg106
         try simp only [dn] at hg106
         refine yfz 4 underlying67 sizeOf65 ?_
         refine yl st 0 isAgg65 ?_
         refine vy (y_lensl rfl underlying65) ?_
         refine vy (y_gtr rfl rfl) ?_
         refine ypt ?_
         refine vmb ?_ ?_
         ·intro hg112
          try simp only [dn] at hg112
          iterate 9 refine vsk ?_
          refine ypt ?_
          refine vc_end (vq_then (vk4 1 2 7 122 ?_))
          refine vc_ift rfl ?_
          refine vc_seq (vc_region ?_)
          refine ya ?_
          refine vc_end (vq_then (vk1 4 (vc_ret (vq_then_ret ?_))))
          refine vq_ret1 st (.inl rfl) results159 (.tmp rfl) ?_
          refine ⟨_, rfl, ?_⟩
          refine ⟨?_, st.chg⟩
          show Value.bool _ = Value.bool _
          congr 1
          symm
          first
           | (rw [Bool.eq_false_iff]
              intro hR
              obtain ⟨r1, r2, r3, r4, r5, r6, r7, r8, r9⟩ := rightS_iff.1 hR
              unfold nmOk at r2 r3
              clear st hse hsb hsl hrec hok
              (simp_all; done))
         ·intro hg112
          try simp only [dn] at hg112
          refine vy (y_fa0 rfl underlying67 rfl rfl sizeOf64 rfl) ?_
          refine yl st 0 isAgg64 ?_
          refine vy (y_nei rfl rfl) ?_
          refine vmb ?_ ?_
          ·intro hg116
           try simp only [dn] at hg116
           refine yfz 5 underlying67 sizeOf65 ?_
           refine yl st 0 isAgg65 ?_
           refine vy (y_lensl rfl underlying65) ?_
           refine vy (y_gtr rfl rfl) ?_
           refine ypt ?_
           refine ypf ?_
           refine vc_end (vq_then (vk4 1 2 7 122 ?_))
           refine vc_ifs rfl ?_ ?_
           ·intro hc122
            try simp only [dn] at hc122
            refine vc_seq (vc_region ?_)
            refine ya ?_
            refine vc_end (vq_then (vk1 4 (vc_ret (vq_then_ret ?_))))
            refine vq_ret1 st (.inl rfl) results159 (.tmp rfl) ?_
            refine ⟨_, rfl, ?_⟩
            refine ⟨?_, st.chg⟩
            show Value.bool _ = Value.bool _
            congr 1
            symm
            first
             | (rw [Bool.eq_false_iff]
                intro hR
                obtain ⟨r1, r2, r3, r4, r5, r6, r7, r8, r9⟩ := rightS_iff.1 hR
                unfold nmOk at r2 r3
                clear st hse hsb hsl hrec hok
                omega)
           ·intro hc122
            try simp only [dn] at hc122
            refine vc_code_skip ?_
            refine vq_meet () ⟨rfl, rfl, rfl, trivial⟩ st ?_
            ·refine ⟨?_, ?_⟩ <;> (right; omega)
          ·intro hg116
           try simp only [dn] at hg116
           iterate 4 refine vsk ?_
           iterate 2 refine ypf ?_
           refine vc_end (vq_then (vk4 1 2 7 122 ?_))
           refine vc_iff rfl ?_
           refine vc_code_skip ?_
           refine vq_meet () ⟨rfl, rfl, rfl, trivial⟩ st ?_
           ·refine ⟨?_, ?_⟩ <;> first | (left; assumption) | (right; omega)
        ·intro hg106
         try simp only [dn] at hg106
         iterate 4 refine vsk ?_
         refine ypf ?_
         refine ym ?_
         refine vy (y_fa0 rfl underlying67 rfl rfl sizeOf64 rfl) ?_
         refine yl st 0 isAgg64 ?_
         refine vy (y_nei rfl rfl) ?_
         refine vmb ?_ ?_
         ·intro hg116
          try simp only [dn] at hg116
          refine yfz 5 underlying67 sizeOf65 ?_
          refine yl st 0 isAgg65 ?_
          refine vy (y_lensl rfl underlying65) ?_
          refine vy (y_gtr rfl rfl) ?_
          refine ypt ?_
          refine ypf ?_
          refine vc_end (vq_then (vk4 1 2 7 122 ?_))
          refine vc_ifs rfl ?_ ?_
          ·intro hc122
           try simp only [dn] at hc122
           refine vc_seq (vc_region ?_)
           refine ya ?_
           refine vc_end (vq_then (vk1 4 (vc_ret (vq_then_ret ?_))))
           refine vq_ret1 st (.inl rfl) results159 (.tmp rfl) ?_
           refine ⟨_, rfl, ?_⟩
           refine ⟨?_, st.chg⟩
           show Value.bool _ = Value.bool _
           congr 1
           symm
           first
            | (rw [Bool.eq_false_iff]
               intro hR
               obtain ⟨r1, r2, r3, r4, r5, r6, r7, r8, r9⟩ := rightS_iff.1 hR
               unfold nmOk at r2 r3
               clear st hse hsb hsl hrec hok
               omega)
          ·intro hc122
           try simp only [dn] at hc122
           refine vc_code_skip ?_
           refine vq_meet () ⟨rfl, rfl, rfl, trivial⟩ st ?_
           ·refine ⟨?_, ?_⟩ <;> first | (left; assumption) | (right; omega)
         ·intro hg116
          try simp only [dn] at hg116
          iterate 4 refine vsk ?_
          iterate 2 refine ypf ?_
          refine vc_end (vq_then (vk4 1 2 7 122 ?_))
          refine vc_iff rfl ?_
          refine vc_code_skip ?_
          refine vq_meet () ⟨rfl, rfl, rfl, trivial⟩ st ?_
          ·refine ⟨?_, ?_⟩ <;> (left; assumption)
       ·clear st
        rintro ⟨⟩ w ⟨hA5, hA6⟩ st
        refine vc_cut (w0 := w0) (M := []) (fun (_ : Unit) => [(1, .int .i64 (d : Int)), (2, .pointer (some ⟨b2, 0, none⟩))]) (fun _ => [.blk b2 (.cells (smL s oe ob ol ce cb cl).toArray 67 (0, 0))]) (fun _ _ => (hasB s.k = false ∨ d < 64) ∧ rightSs s.body (d + 1) = true) ?_ ?_
        ·refine vc_seq (vc_region ?_)
         refine ym ?_
         refine vmb ?_ ?_
         ·intro hg124
          try simp only [dn] at hg124
          refine yfz 4 underlying67 sizeOf65 ?_
          refine yl st 0 isAgg65 ?_
          refine ym ?_
          refine vy (y_add rfl rfl (by omega : _ = ((d + 1 : Nat) : Int)) (by omega) (by omega)) ?_
          refine vc_e (e_call [_, _] rfl rfl call122 rfl (hrec _ (.inl rfl) _ _ _ (hsb.kept (Same.of_nil st.chg))) ?_)
          rintro _ w ⟨rfl, cw⟩
          replace st := st.call0 cw
          refine vy (y_not rfl) ?_
          refine ypt ?_
          refine vc_end (vq_then (vk3 1 2 131 ?_))
          refine vc_ifs rfl ?_ ?_
          ·intro hc131
           try simp only [dn] at hc131
           refine vc_seq (vc_region ?_)
           refine ya ?_
           refine vc_end (vq_then (vk1 4 (vc_ret (vq_then_ret ?_))))
           refine vq_ret1 st (.inl rfl) results159 (.tmp rfl) ?_
           refine ⟨_, rfl, ?_⟩
           refine ⟨?_, st.chg⟩
           show Value.bool _ = Value.bool _
           congr 1
           symm
           first
            | (rw [Bool.eq_false_iff]
               intro hR
               obtain ⟨r1, r2, r3, r4, r5, r6, r7, r8, r9⟩ := rightS_iff.1 hR
               unfold nmOk at r2 r3
               clear st hse hsb hsl hrec hok
               (simp_all; omega))
          ·intro hc131
           try simp only [dn] at hc131
           refine vc_code_skip ?_
           refine vq_meet () ⟨rfl, rfl, trivial⟩ st ?_
           ·(clear st hrec; simp_all; omega)
         ·intro hg124
          try simp only [dn] at hg124
          iterate 6 refine vsk ?_
          refine ypf ?_
          refine vc_end (vq_then (vk3 1 2 131 ?_))
          refine vc_iff rfl ?_
          refine vc_code_skip ?_
          refine vq_meet () ⟨rfl, rfl, trivial⟩ st ?_
          ·exact ⟨.inl (by assumption), by rw [List.eq_nil_of_length_eq_zero (hA5.resolve_left (by rw [‹hasB s.k = false›]; simp))]; rfl⟩
        ·clear st
         rintro ⟨⟩ w ⟨hA7, hA8⟩ st
         refine vc_seq (vc_region ?_)
         refine yfz 5 underlying67 sizeOf65 ?_
         refine yl st 0 isAgg65 ?_
         refine vy (y_lensl rfl underlying65) ?_
         refine vy (y_eqi rfl rfl) ?_
         refine vmb ?_ ?_
         ·intro hg136
          try simp only [dn] at hg136
          iterate 5 refine vsk ?_
          refine ypt ?_
          refine ya ?_
          refine vc_end (vq_then (vk1 4 (vc_ret ?_)))
          refine vq_ret1 st (.inl rfl) results159 (.tmp rfl) ?_
          refine ⟨_, rfl, ?_⟩
          refine ⟨?_, st.chg⟩
          show Value.bool _ = Value.bool _
          congr 1
          symm
          first
           | (rw [rightS_iff]
              exact ⟨hA1, hA2, hA3, hA4, hA5, hA6, hA7.imp (fun h => ⟨h, by omega⟩) id, hA8, by rw [List.eq_nil_of_length_eq_zero (l := s.els) (by omega)]; rfl⟩)
         ·intro hg136
          try simp only [dn] at hg136
          refine yfz 5 underlying67 sizeOf65 ?_
          refine yl st 0 isAgg65 ?_
          refine ym ?_
          refine vy (y_add rfl rfl (by omega : _ = ((d + 1 : Nat) : Int)) (by omega) (by omega)) ?_
          refine vc_e (e_call [_, _] rfl rfl call122 rfl (hrec _ (.inr rfl) _ _ _ (hsl.kept (Same.of_nil st.chg))) ?_)
          rintro _ w ⟨rfl, cw⟩
          replace st := st.call0 cw
          refine ypf ?_
          refine ya ?_
          refine vc_end (vq_then (vk1 4 (vc_ret ?_)))
          refine vq_ret1 st (.inl rfl) results159 (.tmp rfl) ?_
          refine ⟨_, rfl, ?_⟩
          refine ⟨?_, st.chg⟩
          show Value.bool _ = Value.bool _
          congr 1
          symm
          first
           | (rw [Bool.eq_iff_iff, rightS_iff]
              constructor
              · rintro ⟨r1, r2, r3, r4, r5, r6, r7, r8, r9⟩
                rw [r9]
                rcases r7 with h | h
                · omega
                · simp; omega
              · intro h
                simp only [Bool.and_eq_true, decide_eq_true_eq] at h
                exact ⟨hA1, hA2, hA3, hA4, hA5, hA6, .inr (by omega), hA8, h.2⟩)

set_option maxHeartbeats 1000000 in
theorem rblock_any : ∀ (n : Nat) (ss : List Sm), szo ss = n → ∀ (d : Nat), d ≤ 1000 → ∀ (oa : Option Addr) (cap : Nat) (w : World), SmRow w S oa ss → OkSs ss → Ret Tryz.prog 122 [.slice oa ss.length cap, .int .i64 (d : Int)] w fun v w' => v = .bool (decide (d ≤ 64) && rightSs ss d) ∧ Chg [] w w' := by
 intro n
 refine Nat.strongRecOn n fun n ih => ?_
 intro ss hn d hd oa cap w hr hok
 subst hn
 have hssl := hok.1
 refine ret_of [_, _] func122 rfl ntmps122 rfl ?_
 have st := St.init w []
 obtain ⟨w0, rfl⟩ : ∃ w0, w0 = w := ⟨_, rfl⟩
 refine vc_seq (vc_region ?_)
 refine ya ?_
 refine vc_end (vq_then (vk2 0 1 (vc_seq (vc_seq (vc_region ?_)))))
 refine ym ?_
 refine vy (y_gtr rfl rfl) ?_
 refine vc_end (vq_then (vk3 0 1 7 ?_))
 refine vc_ifs rfl ?_ ?_
 ·intro hc7
  try simp only [dn] at hc7
  refine vc_seq (vc_region ?_)
  refine ya ?_
  refine vc_end (vq_then (vk1 4 (vc_ret (vq_then_ret ?_))))
  refine vq_ret1 st (.inl rfl) results122 (.tmp rfl) ?_
  refine ⟨_, rfl, ?_⟩
  refine ⟨?_, st.chg⟩
  rw [decide_eq_false (by omega)]; rfl
 ·intro hc7
  try simp only [dn] at hc7
  refine vc_code_skip (vq_then (vk2 0 1 (vc_seq (vc_seq (vc_region ?_)))))
  refine ya ?_
  refine vc_end (vq_then (vk3 0 1 5 (vc_block ?_)))
  refine vc_loop (w0 := w0) (M := []) (fun (j : Nat) => [(0, .slice oa ss.length cap), (1, .int .i64 (d : Int)), (5, .int .i64 (j : Int))]) (fun _ => []) (fun j _ => j ≤ ss.length ∧ (ss.take j).all (rightS · d) = true) (fun j => ss.length - j) 0 ⟨rfl, rfl, rfl, trivial⟩ st ⟨by omega, by simp⟩ ?_
  rintro j w ⟨hj, hall⟩ st
  refine vc_seq (vc_seq (vc_region ?_))
  iterate 2 refine ym ?_
  refine vy (y_lensl rfl underlying65) ?_
  refine vy (y_lss rfl rfl) ?_
  refine vc_end (vq_then (vk4 0 1 5 11 ?_))
  refine vc_ifs rfl ?_ ?_
  ·intro hc11
   try simp only [dn] at hc11
   obtain ⟨s, hsj⟩ : ∃ s, ss[j]? = some s := ⟨_, List.getElem?_eq_getElem (by omega)⟩
   obtain ⟨gb, go, rfl, hgS, hgl, hg⟩ := SmRow.at hr (by omega)
   obtain ⟨oe, ob, ol, ce, cb, cl, hsV, hse, hsb, hsl, hc⟩ := hg j s hsj
   have hks := hok.2 j s hsj
   have hz := mem_size hsj
   refine vc_code_skip (vq_then (vk3 0 1 5 (vc_seq (vc_block (vc_seq (vc_region ?_))))))
   iterate 2 refine ym ?_
   refine vy (y_ia (k := j) rfl rfl underlying65 sizeOf67 rfl (by omega)) ?_
   refine vy (y_ldca (smL s oe ob ol ce cb cl) rfl isAgg67 sizeOf67 rfl (fun i v hi => st.chg.cell (hc i v hi) (by simp))) ?_
   refine ym ?_
   refine vc_e (e_call [_, _] rfl rfl call159 rfl (rstmt_any s d (by omega) oe ob ol ce cb cl _ (hse.kept (Same.of_nil st.chg)) (hsb.kept (Same.of_nil st.chg)) (hsl.kept (Same.of_nil st.chg)) hks (fun l hl oa cap w hr => ih (szo l) (by have := sm_kids s; rcases hl with h | h <;> subst h <;> omega) l rfl (d + 1) (by omega) oa cap w hr (by rcases hl with h | h <;> subst h; exact hks.body; exact hks.els))) ?_)
   rintro _ w ⟨rfl, cw⟩
   replace st := st.call0 cw
   refine vy (y_not rfl) ?_
   refine vc_end (vq_then (vk4 0 1 5 20 ?_))
   refine vc_ifs rfl ?_ ?_
   ·intro hc20
    try simp only [dn] at hc20
    refine vc_seq (vc_region ?_)
    refine ya ?_
    refine vc_end (vq_then (vk1 4 (vc_ret (vq_block_ret (vq_then_ret (vq_then_ret (vq_block_ret (vq_then_ret ?_))))))))
    refine vq_ret1 st (.inl rfl) results122 (.tmp rfl) ?_
    refine ⟨_, rfl, ?_⟩
    refine ⟨?_, st.chg⟩
    rw [decide_eq_true (by omega), Bool.true_and]
    rw [rightSs_no (by assumption) hsj]
   ·intro hc20
    try simp only [dn] at hc20
    refine vc_code_skip (vq_block (vq_then (vk3 0 1 5 (vc_region ?_))))
    refine ym ?_
    refine vy (y_add rfl rfl (by omega : _ = ((j + 1 : Nat) : Int)) (by omega) (by omega)) ?_
    refine ya ?_
    refine vc_end ?_
    refine vq_again (j + 1)  ⟨rfl, rfl, rfl, trivial⟩ (st.dr) ?_ ?_
    ·exact ⟨by omega, all_take' hall hsj (by assumption)⟩
    ·omega
  ·intro hc11
   try simp only [dn] at hc11
   refine vc_exit (vq_then_exit (vq_then_exit (vq_block_exit (vq_then (vc_keep [] trivial (vc_seq (vc_region ?_)))))))
   refine ya ?_
   refine vc_end (vq_then (vk1 4 (vc_ret ?_)))
   refine vq_ret1 st (.inl rfl) results122 (.tmp rfl) ?_
   refine ⟨_, rfl, ?_⟩
   refine ⟨?_, st.chg⟩
   rw [decide_eq_true (by omega), Bool.true_and]
   rw [rightSs_eq, all_end hall (by omega)]

end
end Go.Proofs.YtnmhlpnapgojjaaGreatDoor


namespace Go.Proofs.YtnmhlpnapgojjaaGreatDoor
open Go.RowKit Sx LexS _root_.Go.Proofs.Tryz
section
variable {S : Nat → Prop}
abbrev pgL (p : Pg) (os ol ot : Option Addr) (cs cl ct : Nat) : List Value := [.slice os p.shared.length cs, .slice ol p.locks.length cl, .slice ot p.threads.length ct]

set_option maxHeartbeats 1000000 in
theorem right_any (p : Pg) (os ol ot : Option Addr) (cs cl ct : Nat) (w : World) (hS : DcRow w S os p.shared) (hL : DcRow w S ol p.locks) (hT : ThRow w S ot p.threads) (hok : OkP p) (hsg : Sig w) : Ret Tryz.prog 38 [.agg (pgL p os ol ot cs cl ct).toArray] w fun v w' => v = .bool (pgOk p) ∧ Chg [] w w' := by
 refine ret_of [_] func38 rfl ntmps38 rfl ?_
 have st := St.init w []
 obtain ⟨w0, rfl⟩ : ∃ w0, w0 = w := ⟨_, rfl⟩
 have hn1 := hok.1.1
 have hn2 := hok.2.1.1
 have hn3 := hok.2.2.1
 refine vc_seq (vc_region ?_)
 refine vc_e (e_bx (l := [_, _, _]) st rfl rfl rfl rfl ?_)
 intro b1 w hb1 st
 refine ya ?_
 refine vc_end (vq_then (vk1 1 (vc_seq (vc_seq (vc_region ?_)))))
 refine vy (y_fa0 rfl underlying26 rfl rfl sizeOf23 rfl) ?_
 refine yl st 0 isAgg23 ?_
 refine vc_e (e_call [_, _] rfl rfl call92 rfl (decls_any p.shared _ _ true _ (RowC.kept hS (Same.of_nil st.chg)) (by unfold maxLen; omega)) ?_)
 rintro _ w ⟨rfl, cw⟩
 replace st := st.call0 cw
 refine vy (y_not rfl) ?_
 refine vmb ?_ ?_
 ·intro hg9
  try simp only [dn] at hg9
  iterate 4 refine vsk ?_
  refine ypt ?_
  refine vc_end (vq_then (vk2 1 14 ?_))
  refine vc_ift rfl ?_
  refine vc_seq (vc_region ?_)
  refine ya ?_
  refine vc_end (vq_then (vk1 2 (vc_ret (vq_then_ret ?_))))
  refine vq_ret1 st (.inl rfl) results38 (.tmp rfl) ?_
  refine ⟨_, rfl, ?_⟩
  refine ⟨?_, st.chg⟩
  show Value.bool _ = Value.bool _
  congr 1
  symm
  unfold pgOk
  clear st
  try simp only [show decide (1 ≤ 64) = true from rfl, Bool.true_and] at *
  (rw [‹p.shared.all (dcOk true) = false›]; simp; done)
 ·intro hg9
  try simp only [dn] at hg9
  refine yfz 1 underlying26 sizeOf23 ?_
  refine yl st 0 isAgg23 ?_
  refine vc_e (e_call [_, _] rfl rfl call92 rfl (decls_any p.locks _ _ false _ (RowC.kept hL (Same.of_nil st.chg)) (by unfold maxLen; omega)) ?_)
  rintro _ w ⟨rfl, cw⟩
  replace st := st.call0 cw
  refine vy (y_not rfl) ?_
  refine ypf ?_
  refine vc_end (vq_then (vk2 1 14 ?_))
  refine vc_ifs rfl ?_ ?_
  ·intro hc14
   try simp only [dn] at hc14
   refine vc_seq (vc_region ?_)
   refine ya ?_
   refine vc_end (vq_then (vk1 2 (vc_ret (vq_then_ret ?_))))
   refine vq_ret1 st (.inl rfl) results38 (.tmp rfl) ?_
   refine ⟨_, rfl, ?_⟩
   refine ⟨?_, st.chg⟩
   show Value.bool _ = Value.bool _
   congr 1
   symm
   unfold pgOk
   clear st
   try simp only [show decide (1 ≤ 64) = true from rfl, Bool.true_and] at *
   (rw [‹p.locks.all (dcOk false) = false›]; simp; done)
  ·intro hc14
   try simp only [dn] at hc14
   refine vc_code_skip (vq_then (vk1 1 (vc_seq (vc_seq (vc_region ?_)))))
   refine yfz 2 underlying26 sizeOf24 ?_
   refine yl st 0 isAgg24 ?_
   refine vy (y_lensl rfl underlying24) ?_
   refine ym ?_
   refine vc_end (vq_then (vk3 16 17 18 (vc_block ?_)))
   refine vc_loop (w0 := w0) (M := []) (fun (j : Nat) => [(16, .slice ot p.threads.length ct), (17, .int .i64 (p.threads.length : Int)), (18, .int .i64 (j : Int))]) (fun _ => []) (fun j _ => j ≤ p.threads.length ∧ (p.threads.take j).all thOk = true) (fun j => p.threads.length - j) 0 ⟨rfl, rfl, rfl, trivial⟩ (st.dr) ⟨by omega, by simp⟩ ?_
   clear st
   rintro j w ⟨hj, hall⟩ st
   refine vc_seq (vc_region ?_)
   refine vy (y_lss rfl rfl) ?_
   refine vc_end (vq_then (vk4 16 17 18 19 (vc_seq ?_)))
   refine vc_ifs rfl ?_ ?_
   ·intro hc19
    try simp only [dn] at hc19
    obtain ⟨t, htj⟩ : ∃ t, p.threads[j]? = some t := ⟨_, List.getElem?_eq_getElem (by omega)⟩
    obtain ⟨gb, go, rfl, hgS, hgl, hg⟩ := ThRow.at hT (by omega)
    obtain ⟨tl, tb, cll, cbb, htl, htb, hc⟩ := hg j t htj
    have hkt := hok.2.2.2 j t htj
    refine vc_code_skip (vq_then (vk3 16 17 18 (vc_seq (vc_block (vc_seq (vc_region ?_))))))
    refine vy (y_ia (k := j) rfl rfl underlying24 sizeOf69 rfl (by omega)) ?_
    refine vy (y_ldca (thL t tl tb cll cbb) rfl isAgg69 sizeOf69 rfl (fun i v hi => st.chg.cell (hc i v hi) (by simp))) ?_
    refine vc_e (e_al (l := [_, _, _, _]) st rfl rfl zeroValue69 rfl ?_)
    intro b4 w hb4 st
    refine vc_e (e_sts (vs := [_, _, _, _]) st 0 rfl rfl rfl rfl rfl sizeOf69 rfl rfl (by (right; assumption)) ?_)
    intro w st; dsimp only [setNth, wr] at st
    refine vc_end (vq_then (vk4 4 16 17 18 (vc_seq (vc_region ?_))))
    refine vy (y_fa0 rfl underlying69 rfl rfl sizeOf9 rfl) ?_
    refine yl st 0 isAgg9 ?_
    refine vc_e (e_call [_] rfl rfl call52 rfl (name_any _ _) ?_)
    rintro _ _ ⟨rfl, rfl⟩
    refine vy (y_not rfl) ?_
    refine vmb ?_ ?_
    ·intro hg26
     try simp only [dn] at hg26
     iterate 4 refine vsk ?_
     refine ypt ?_
     refine ym ?_
     iterate 4 refine vsk ?_
     refine ypt ?_
     refine vc_end (vq_then (vk4 16 17 18 37 ?_))
     refine vc_ift rfl ?_
     refine vc_seq (vc_region ?_)
     refine ya ?_
     refine vc_end (vq_then (vk1 2 (vc_ret (vq_block_ret (vq_then_ret (vq_then_ret (vq_block_ret (vq_then_ret ?_))))))))
     refine vq_ret1 st (.inl rfl) results38 (.tmp rfl) ?_
     refine ⟨_, rfl, ?_⟩
     refine ⟨?_, st.chg⟩
     show Value.bool _ = Value.bool _
     congr 1
     symm
     unfold pgOk
     clear st
     try simp only [show decide (1 ≤ 64) = true from rfl, Bool.true_and] at *
     (rw [all_no' (p := thOk) htj (by unfold thOk; simp only [*, Bool.and_false, Bool.false_and, Bool.and_true, Bool.true_and])]; simp)
    ·intro hg26
     try simp only [dn] at hg26
     refine yfz 1 underlying69 sizeOf23 ?_
     refine yl st 0 isAgg23 ?_
     refine vc_e (e_call [_, _] rfl rfl call92 rfl (decls_any t.locals _ _ false _ (RowC.kept htl (Same.of_nil st.chg)) (by have := hkt.1.1; unfold maxLen; omega)) ?_)
     rintro _ w ⟨rfl, cw⟩
     replace st := st.call0 cw
     refine vy (y_not rfl) ?_
     refine ypf ?_
     refine vmb ?_ ?_
     ·intro hg32
      try simp only [dn] at hg32
      iterate 4 refine vsk ?_
      refine ypt ?_
      refine vc_end (vq_then (vk4 16 17 18 37 ?_))
      refine vc_ift rfl ?_
      refine vc_seq (vc_region ?_)
      refine ya ?_
      refine vc_end (vq_then (vk1 2 (vc_ret (vq_block_ret (vq_then_ret (vq_then_ret (vq_block_ret (vq_then_ret ?_))))))))
      refine vq_ret1 st (.inl rfl) results38 (.tmp rfl) ?_
      refine ⟨_, rfl, ?_⟩
      refine ⟨?_, st.chg⟩
      show Value.bool _ = Value.bool _
      congr 1
      symm
      unfold pgOk
      clear st
      try simp only [show decide (1 ≤ 64) = true from rfl, Bool.true_and] at *
      (rw [all_no' (p := thOk) htj (by unfold thOk; simp only [*, Bool.and_false, Bool.false_and, Bool.and_true, Bool.true_and])]; simp)
     ·intro hg32
      try simp only [dn] at hg32
      refine yfz 2 underlying69 sizeOf65 ?_
      refine yl st 0 isAgg65 ?_
      refine vc_e (e_call [_, _] rfl rfl call93 rfl (stmts_any _ t.body rfl 1 (by omega) (.inr (by omega)) _ _ _ (htb.kept (Same.of_nil st.chg)) hkt.2.1 (hsg.kept st.chg)) ?_)
      rintro _ w ⟨rfl, cw⟩
      replace st := st.call0 cw
      refine vy (y_not rfl) ?_
      refine ypf ?_
      refine vc_end (vq_then (vk4 16 17 18 37 ?_))
      refine vc_ifs rfl ?_ ?_
      ·intro hc37
       try simp only [dn] at hc37
       refine vc_seq (vc_region ?_)
       refine ya ?_
       refine vc_end (vq_then (vk1 2 (vc_ret (vq_block_ret (vq_then_ret (vq_then_ret (vq_block_ret (vq_then_ret ?_))))))))
       refine vq_ret1 st (.inl rfl) results38 (.tmp rfl) ?_
       refine ⟨_, rfl, ?_⟩
       refine ⟨?_, st.chg⟩
       show Value.bool _ = Value.bool _
       congr 1
       symm
       unfold pgOk
       clear st
       try simp only [show decide (1 ≤ 64) = true from rfl, Bool.true_and] at *
       (rw [all_no' (p := thOk) htj (by unfold thOk; simp only [*, Bool.and_false, Bool.false_and, Bool.and_true, Bool.true_and])]; simp)
      ·intro hc37
       try simp only [dn] at hc37
       refine vc_code_skip (vq_block (vq_then (vk3 16 17 18 (vc_region ?_))))
       refine vy (y_add rfl rfl (by omega : _ = ((j + 1 : Nat) : Int)) (by omega) (by omega)) ?_
       refine ym ?_
       refine vc_end ?_
       refine vq_again (j + 1)  ⟨rfl, rfl, rfl, trivial⟩ (st.dr) ?_ ?_
       ·exact ⟨by omega, all_take' hall htj (by unfold thOk; clear st; (try simp only [show decide (1 ≤ 64) = true from rfl, Bool.true_and] at *); simp only [*, Bool.and_self])⟩
       ·omega
   ·intro hc19
    try simp only [dn] at hc19
    refine vc_exit (vq_then_exit (vq_then_exit (vq_block_exit (vq_then (vc_keep [] trivial (vc_seq (vc_region ?_)))))))
    refine ya ?_
    refine vc_end (vq_then (vk1 2 (vc_ret ?_)))
    refine vq_ret1 st (.inl rfl) results38 (.tmp rfl) ?_
    refine ⟨_, rfl, ?_⟩
    refine ⟨?_, st.chg⟩
    show Value.bool _ = Value.bool _
    congr 1
    symm
    unfold pgOk
    clear st
    try simp only [show decide (1 ≤ 64) = true from rfl, Bool.true_and] at *
    (rw [‹p.shared.all (dcOk true) = true›, ‹p.locks.all (dcOk false) = true›, all_end hall (by omega)]; rfl)

set_option maxHeartbeats 1000000 in
theorem rright_any (p : Pg) (os ol ot : Option Addr) (cs cl ct : Nat) (w : World) (hS : DcRow w S os p.shared) (hL : DcRow w S ol p.locks) (hT : ThRow w S ot p.threads) (hok : OkP p) : Ret Tryz.prog 57 [.agg (pgL p os ol ot cs cl ct).toArray] w fun v w' => v = .bool (pgOk p) ∧ Chg [] w w' := by
 refine ret_of [_] func57 rfl ntmps57 rfl ?_
 have st := St.init w []
 obtain ⟨w0, rfl⟩ : ∃ w0, w0 = w := ⟨_, rfl⟩
 have hn1 := hok.1.1
 have hn2 := hok.2.1.1
 have hn3 := hok.2.2.1
 refine vc_seq (vc_region ?_)
 refine vc_e (e_bx (l := [_, _, _]) st rfl rfl rfl rfl ?_)
 intro b1 w hb1 st
 refine ya ?_
 refine vc_end (vq_then (vk1 1 (vc_seq (vc_seq (vc_region ?_)))))
 refine ya ?_
 refine vc_end (vq_then (vk2 1 3 (vc_block ?_)))
 refine vc_loop (w0 := w0) (M := []) (fun (j : Nat) => [(1, .pointer (some ⟨b1, 0, none⟩)), (3, .int .i64 (j : Int))]) (fun _ => [.blk b1 (.cells (pgL p os ol ot cs cl ct).toArray 26 (0, 0))]) (fun j _ => j ≤ p.shared.length ∧ (p.shared.take j).all (dcOk true) = true) (fun j => p.shared.length - j) 0 ⟨rfl, rfl, trivial⟩ st ⟨by omega, by simp⟩ ?_
 clear st
 rintro j w ⟨hj, hall⟩ st
 refine vc_seq (vc_seq (vc_region ?_))
 refine ym ?_
 refine vy (y_fa0 rfl underlying26 rfl rfl sizeOf23 rfl) ?_
 refine yl st 0 isAgg23 ?_
 refine vy (y_lensl rfl underlying23) ?_
 refine vy (y_lss rfl rfl) ?_
 refine vc_end (vq_then (vk3 1 3 10 ?_))
 refine vc_ifs rfl ?_ ?_
 ·intro hc10
  try simp only [dn] at hc10
  obtain ⟨x, hx⟩ : ∃ x, p.shared[j]? = some x := ⟨_, List.getElem?_eq_getElem (by omega)⟩
  obtain ⟨gb, go, rfl, hgS, hgl, hg⟩ := DcRow.at hS (by omega)
  have hc := hg j x hx
  refine vc_code_skip (vq_then (vk2 1 3 (vc_seq (vc_block (vc_seq (vc_region ?_))))))
  refine vy (y_fa0 rfl underlying26 rfl rfl sizeOf23 rfl) ?_
  refine yl st 0 isAgg23 ?_
  refine ym ?_
  refine vy (y_ia (k := j) rfl rfl underlying23 sizeOf63 rfl (by omega)) ?_
  refine vy (y_fa0 rfl underlying63 rfl rfl sizeOf9 rfl) ?_
  refine vy (y_ldc rfl isAgg9 (st.chg.cell (hc 0 _ rfl) (by simp))) ?_
  refine vc_e (e_call [_] rfl rfl call58 rfl (rname_any _ _) ?_)
  rintro _ _ ⟨rfl, rfl⟩
  refine vy (y_not rfl) ?_
  refine vmb ?_ ?_
  ·intro hg21
   try simp only [dn] at hg21
   iterate 7 refine vsk ?_
   refine ypt ?_
   refine vc_end (vq_then (vk3 1 3 29 ?_))
   refine vc_ift rfl ?_
   refine vc_seq (vc_region ?_)
   refine ya ?_
   refine vc_end (vq_then (vk1 2 (vc_ret (vq_block_ret (vq_then_ret (vq_then_ret (vq_block_ret (vq_then_ret ?_))))))))
   refine vq_ret1 st (.inl rfl) results57 (.tmp rfl) ?_
   refine ⟨_, rfl, ?_⟩
   refine ⟨?_, st.chg⟩
   unfold pgOk
   rw [all_no' (p := dcOk true) hx (by clear st; unfold dcOk; simp_all)]; rfl
  ·intro hg21
   try simp only [dn] at hg21
   refine vy (y_fa0 rfl underlying26 rfl rfl sizeOf23 rfl) ?_
   refine yl st 0 isAgg23 ?_
   refine ym ?_
   refine vy (y_ia (k := j) rfl rfl underlying23 sizeOf63 rfl (by omega)) ?_
   refine vy (y_fa (k := 1) rfl underlying63 rfl rfl sizeOf2 rfl) ?_
   refine vy (y_ldc rfl isAgg2 (st.chg.cell (hc 1 _ rfl) (by simp))) ?_
   refine vy (y_eqi rfl rfl) ?_
   refine ypf ?_
   refine vc_end (vq_then (vk3 1 3 29 ?_))
   refine vc_ifs rfl ?_ ?_
   ·intro hc29
    try simp only [dn] at hc29
    refine vc_seq (vc_region ?_)
    refine ya ?_
    refine vc_end (vq_then (vk1 2 (vc_ret (vq_block_ret (vq_then_ret (vq_then_ret (vq_block_ret (vq_then_ret ?_))))))))
    refine vq_ret1 st (.inl rfl) results57 (.tmp rfl) ?_
    refine ⟨_, rfl, ?_⟩
    refine ⟨?_, st.chg⟩
    unfold pgOk
    rw [all_no' (p := dcOk true) hx (by clear st; unfold dcOk; simp_all)]; rfl
   ·intro hc29
    try simp only [dn] at hc29
    refine vc_code_skip (vq_block (vq_then (vk2 1 3 (vc_region ?_))))
    refine ym ?_
    refine vy (y_add rfl rfl (by omega : _ = ((j + 1 : Nat) : Int)) (by omega) (by omega)) ?_
    refine ya ?_
    refine vc_end ?_
    refine vq_again (j + 1)  ⟨rfl, rfl, trivial⟩ (st.dr) ?_ ?_
    ·exact ⟨by omega, all_take' hall hx (by clear st; unfold dcOk; simp_all)⟩
    ·omega
 ·intro hc10
  try simp only [dn] at hc10
  have hSh := all_end hall (by omega)
  clear hall
  refine vc_exit (vq_then_exit (vq_then_exit (vq_block_exit (vq_then (vk1 1 (vc_seq (vc_seq (vc_region ?_))))))))
  refine yfz 1 underlying26 sizeOf23 ?_
  refine yl st 0 isAgg23 ?_
  refine vc_e (e_call [_] rfl rfl call121 rfl (rplain_any p.locks _ _ _ (RowC.kept hL (Same.of_nil st.chg)) (by unfold maxLen; omega)) ?_)
  rintro _ w ⟨rfl, cw⟩
  replace st := st.call0 cw
  refine vy (y_not rfl) ?_
  refine vc_end (vq_then (vk2 1 33 ?_))
  refine vc_ifs rfl ?_ ?_
  ·intro hc33
   try simp only [dn] at hc33
   refine vc_seq (vc_region ?_)
   refine ya ?_
   refine vc_end (vq_then (vk1 2 (vc_ret (vq_then_ret ?_))))
   refine vq_ret1 st (.inl rfl) results57 (.tmp rfl) ?_
   refine ⟨_, rfl, ?_⟩
   refine ⟨?_, st.chg⟩
   show Value.bool _ = Value.bool _
   congr 1
   symm
   unfold pgOk
   clear st
   try simp only [show decide (1 ≤ 64) = true from rfl, Bool.true_and] at *
   (rw [‹p.locks.all (dcOk false) = false›]; simp; done)
  ·intro hc33
   try simp only [dn] at hc33
   refine vc_code_skip (vq_then (vk1 1 (vc_seq (vc_seq (vc_region ?_)))))
   refine ya ?_
   refine vc_end (vq_then (vk2 1 4 (vc_block ?_)))
   refine vc_loop (w0 := w0) (M := []) (fun (j : Nat) => [(1, .pointer (some ⟨b1, 0, none⟩)), (4, .int .i64 (j : Int))]) (fun _ => [.blk b1 (.cells (pgL p os ol ot cs cl ct).toArray 26 (0, 0))]) (fun j _ => j ≤ p.threads.length ∧ (p.threads.take j).all thOk = true) (fun j => p.threads.length - j) 0 ⟨rfl, rfl, trivial⟩ st ⟨by omega, by simp⟩ ?_
   clear st
   rintro j w ⟨hj, hall⟩ st
   refine vc_seq (vc_seq (vc_region ?_))
   refine ym ?_
   refine yfz 2 underlying26 sizeOf24 ?_
   refine yl st 0 isAgg24 ?_
   refine vy (y_lensl rfl underlying24) ?_
   refine vy (y_lss rfl rfl) ?_
   refine vc_end (vq_then (vk3 1 4 38 ?_))
   refine vc_ifs rfl ?_ ?_
   ·intro hc38
    try simp only [dn] at hc38
    obtain ⟨t, htj⟩ : ∃ t, p.threads[j]? = some t := ⟨_, List.getElem?_eq_getElem (by omega)⟩
    obtain ⟨gb, go, rfl, hgS, hgl, hg⟩ := ThRow.at hT (by omega)
    obtain ⟨tl, tb, cll, cbb, htl, htb, hc⟩ := hg j t htj
    have hkt := hok.2.2.2 j t htj
    refine vc_code_skip (vq_then (vk2 1 4 (vc_seq (vc_block (vc_seq (vc_region ?_))))))
    refine yfz 2 underlying26 sizeOf24 ?_
    refine yl st 0 isAgg24 ?_
    refine ym ?_
    refine vy (y_ia (k := j) rfl rfl underlying24 sizeOf69 rfl (by omega)) ?_
    refine vy (y_ldca (thL t tl tb cll cbb) rfl isAgg69 sizeOf69 rfl (fun i v hi => st.chg.cell (hc i v hi) (by simp))) ?_
    refine vc_e (e_al (l := [_, _, _, _]) st rfl rfl zeroValue69 rfl ?_)
    intro b5 w hb5 st
    refine vc_e (e_sts (vs := [_, _, _, _]) st 0 rfl rfl rfl rfl rfl sizeOf69 rfl rfl (by (right; assumption)) ?_)
    intro w st; dsimp only [setNth, wr] at st
    refine vc_end (vq_then (vk3 1 4 5 (vc_seq (vc_region ?_))))
    refine vy (y_fa0 rfl underlying69 rfl rfl sizeOf9 rfl) ?_
    refine yl st 0 isAgg9 ?_
    refine vc_e (e_call [_] rfl rfl call58 rfl (rname_any _ _) ?_)
    rintro _ _ ⟨rfl, rfl⟩
    refine vy (y_not rfl) ?_
    refine vmb ?_ ?_
    ·intro hg50
     try simp only [dn] at hg50
     iterate 4 refine vsk ?_
     refine ypt ?_
     refine ym ?_
     iterate 4 refine vsk ?_
     refine ypt ?_
     refine vc_end (vq_then (vk3 1 4 61 ?_))
     refine vc_ift rfl ?_
     refine vc_seq (vc_region ?_)
     refine ya ?_
     refine vc_end (vq_then (vk1 2 (vc_ret (vq_block_ret (vq_then_ret (vq_then_ret (vq_block_ret (vq_then_ret ?_))))))))
     refine vq_ret1 st (.inl rfl) results57 (.tmp rfl) ?_
     refine ⟨_, rfl, ?_⟩
     refine ⟨?_, st.chg⟩
     show Value.bool _ = Value.bool _
     congr 1
     symm
     unfold pgOk
     clear st
     try simp only [show decide (1 ≤ 64) = true from rfl, Bool.true_and] at *
     (rw [all_no' (p := thOk) htj (by unfold thOk; simp only [*, Bool.and_false, Bool.false_and, Bool.and_true, Bool.true_and])]; simp)
    ·intro hg50
     try simp only [dn] at hg50
     refine yfz 1 underlying69 sizeOf23 ?_
     refine yl st 0 isAgg23 ?_
     refine vc_e (e_call [_] rfl rfl call121 rfl (rplain_any t.locals _ _ _ (RowC.kept htl (Same.of_nil st.chg)) (by have := hkt.1.1; unfold maxLen; omega)) ?_)
     rintro _ w ⟨rfl, cw⟩
     replace st := st.call0 cw
     refine vy (y_not rfl) ?_
     refine ypf ?_
     refine vmb ?_ ?_
     ·intro hg56
      try simp only [dn] at hg56
      iterate 4 refine vsk ?_
      refine ypt ?_
      refine vc_end (vq_then (vk3 1 4 61 ?_))
      refine vc_ift rfl ?_
      refine vc_seq (vc_region ?_)
      refine ya ?_
      refine vc_end (vq_then (vk1 2 (vc_ret (vq_block_ret (vq_then_ret (vq_then_ret (vq_block_ret (vq_then_ret ?_))))))))
      refine vq_ret1 st (.inl rfl) results57 (.tmp rfl) ?_
      refine ⟨_, rfl, ?_⟩
      refine ⟨?_, st.chg⟩
      show Value.bool _ = Value.bool _
      congr 1
      symm
      unfold pgOk
      clear st
      try simp only [show decide (1 ≤ 64) = true from rfl, Bool.true_and] at *
      (rw [all_no' (p := thOk) htj (by unfold thOk; simp only [*, Bool.and_false, Bool.false_and, Bool.and_true, Bool.true_and])]; simp)
     ·intro hg56
      try simp only [dn] at hg56
      refine yfz 2 underlying69 sizeOf65 ?_
      refine yl st 0 isAgg65 ?_
      refine vc_e (e_call [_, _] rfl rfl call122 rfl (rblock_any _ t.body rfl 1 (by omega) _ _ _ (htb.kept (Same.of_nil st.chg)) hkt.2.1) ?_)
      rintro _ w ⟨rfl, cw⟩
      replace st := st.call0 cw
      refine vy (y_not rfl) ?_
      refine ypf ?_
      refine vc_end (vq_then (vk3 1 4 61 ?_))
      refine vc_ifs rfl ?_ ?_
      ·intro hc61
       try simp only [dn] at hc61
       refine vc_seq (vc_region ?_)
       refine ya ?_
       refine vc_end (vq_then (vk1 2 (vc_ret (vq_block_ret (vq_then_ret (vq_then_ret (vq_block_ret (vq_then_ret ?_))))))))
       refine vq_ret1 st (.inl rfl) results57 (.tmp rfl) ?_
       refine ⟨_, rfl, ?_⟩
       refine ⟨?_, st.chg⟩
       show Value.bool _ = Value.bool _
       congr 1
       symm
       unfold pgOk
       clear st
       try simp only [show decide (1 ≤ 64) = true from rfl, Bool.true_and] at *
       (rw [all_no' (p := thOk) htj (by unfold thOk; simp only [*, Bool.and_false, Bool.false_and, Bool.and_true, Bool.true_and])]; simp)
      ·intro hc61
       try simp only [dn] at hc61
       refine vc_code_skip (vq_block (vq_then (vk2 1 4 (vc_region ?_))))
       refine ym ?_
       refine vy (y_add rfl rfl (by omega : _ = ((j + 1 : Nat) : Int)) (by omega) (by omega)) ?_
       refine ya ?_
       refine vc_end ?_
       refine vq_again (j + 1)  ⟨rfl, rfl, trivial⟩ (st.dr) ?_ ?_
       ·exact ⟨by omega, all_take' hall htj (by unfold thOk; clear st; (try simp only [show decide (1 ≤ 64) = true from rfl, Bool.true_and] at *); simp only [*, Bool.and_self])⟩
       ·omega
   ·intro hc38
    try simp only [dn] at hc38
    refine vc_exit (vq_then_exit (vq_then_exit (vq_block_exit (vq_then (vc_keep [] trivial (vc_seq (vc_region ?_)))))))
    refine ya ?_
    refine vc_end (vq_then (vk1 2 (vc_ret ?_)))
    refine vq_ret1 st (.inl rfl) results57 (.tmp rfl) ?_
    refine ⟨_, rfl, ?_⟩
    refine ⟨?_, st.chg⟩
    show Value.bool _ = Value.bool _
    congr 1
    symm
    unfold pgOk
    clear st
    try simp only [show decide (1 ≤ 64) = true from rfl, Bool.true_and] at *
    (rw [hSh, ‹p.locks.all (dcOk false) = true›, all_end hall (by omega)]; rfl)

end
end Go.Proofs.YtnmhlpnapgojjaaGreatDoor


namespace Go.Proofs.YtnmhlpnapgojjaaGreatDoor.Pq
open Go.RowKit Sx LexS _root_.Go.Proofs.Tryz
abbrev smT (g : Wd → Wd) (h : Int → Int) (s : Sm) (oe ob ol : Option Addr) (ce cb cl : Nat) : List Value := [.int .u8 s.k, str (g s.nm), str (g s.other), .slice oe s.e.length ce, .slice ob s.body.length cb, .slice ol s.els.length cl, .int .i64 (h s.a)]
theorem smT_eq (g : Wd → Wd) (h : Int → Int) (s : Sm) (oe ob ol : Option Addr) (ce cb cl : Nat) : smT g h s oe ob ol ce cb cl = smL (trS g h s) oe ob ol ce cb cl := by
  cases s
  simp only [smT, smL, trS, Sm.e, Sm.k, Sm.nm, Sm.other, Sm.body, Sm.els, Sm.a, trEs_len, trSs_len]
abbrev thT (g : Wd → Wd) (h : Int → Int) (t : Th) (ol ob : Option Addr) (cl cb : Nat) : List Value := [str (g t.nm), .slice ol t.locals.length cl, .slice ob t.body.length cb, .int .i64 (h t.a)]
theorem thT_eq (g : Wd → Wd) (h : Int → Int) (t : Th) (ol ob : Option Addr) (cl cb : Nat) : thT g h t ol ob cl cb = thL (trT g h t) ol ob cl cb := by
  simp only [thT, thL, trT, List.length_map, trSs_len]
theorem trS_e (g : Wd → Wd) (h : Int → Int) (s : Sm) : (trS g h s).e = trEs g h s.e := by cases s; rfl
theorem trS_b (g : Wd → Wd) (h : Int → Int) (s : Sm) : (trS g h s).body = trSs g h s.body := by cases s; rfl
theorem trS_l (g : Wd → Wd) (h : Int → Int) (s : Sm) : (trS g h s).els = trSs g h s.els := by cases s; rfl
section
variable {n0 : Nat}

set_option maxHeartbeats 2000000 in
theorem tstmts_any (b : Bool) (fr tn : Wd) : ∀ (n : Nat) (es : List Sm), szo es = n → OkSs es → ∀ (oa : Option Addr) (cap : Nat) (w : World), SmRow w (· < n0) oa es → n0 ≤ w.heap.size →
    Ret Tryz.prog 128 [.agg (tvL b fr tn).toArray, .slice oa es.length cap] w fun v w' => ∃ oq cq Sq, v = .slice oq es.length cq ∧ SmRQ w' oq cq (trSs (tnm fr tn) (tat b) es) Sq ∧ Nw w.heap.size Sq ∧ Chg [] w w' := by
  intro n
  refine Nat.strongRecOn n fun n ih => ?_
  intro es hn hok oa cap w hr hn0
  subst hn
  have hle := hok.1
  refine ret_of [_, _] func128 rfl ntmps128 rfl ?_
  have st := St.init w []
  obtain ⟨w0, rfl⟩ : ∃ w0, w0 = w := ⟨_, rfl⟩
  replace st := St.pushR (r := .tree [] (fun w => SmSs 42 67 w [] [] [])) st (Chg.refl _ _) (holds_of (by simp [SmSs]) (by simp) (fun a b h hk => h.kept hk)) (by simp [Res.at?])
  replace st := st.ownNil 67 7
  refine vc_seq (vc_region ?_)
  refine vc_e (e_bx (l := [_, _, _]) st rfl rfl rfl rfl ?_)
  intro b2 w hb2 st
  refine ya ?_
  refine vc_end (vq_then (vk2 1 2 (vc_seq (vc_region ?_))))
  refine ya ?_
  refine vc_end (vq_then (vk3 1 2 5 (vc_seq (vc_seq (vc_region ?_)))))
  refine ya ?_
  refine vc_end (vq_then (vk4 1 2 5 6 (vc_block ?_)))
  refine vc_loop (w0 := w0) (M := []) (fun (y : Nat × Option Addr × Nat × List Value × List Nat) => [(1, .slice oa es.length cap), (2, .pointer (some ⟨b2, 0, none⟩)), (5, .slice y.2.1 y.1 y.2.2.1), (6, .int .i64 (y.1 : Int))]) (fun y => [.blk b2 (.cells (tvL b fr tn).toArray 99 (0, 0)), .own (.slice y.2.1 y.1 y.2.2.1) 67 7 y.1 y.2.2.2.1, .tree y.2.2.2.2 (fun w => SmSs 42 67 w ((trSs (tnm fr tn) (tat b) es).take y.1) y.2.2.2.1 y.2.2.2.2)]) (fun y _ => y.1 ≤ es.length ∧ Nw w0.heap.size y.2.2.2.2) (fun y => es.length - y.1) (0, none, 0, [], []) ⟨rfl, rfl, rfl, rfl, trivial⟩ (by simpa using st) ⟨by simp, Nw.nil⟩ ?_
  clear st
  rintro ⟨j, oj, cj, xs, S⟩ w ⟨hj, hSS⟩ st
  dsimp only at *
  refine vc_seq (vc_seq (vc_region ?_))
  iterate 2 refine ym ?_
  refine vy (y_lensl rfl underlying65) ?_
  refine vy (y_lss rfl rfl) ?_
  refine vc_end (vq_then (vk5 1 2 5 6 11 ?_))
  refine vc_ifs rfl ?_ ?_
  · intro hc11
    try simp only [dn] at hc11
    have stK := st
    obtain ⟨s, hsj⟩ : ∃ s, es[j]? = some s := ⟨_, List.getElem?_eq_getElem (by omega)⟩
    obtain ⟨gb, go, rfl, hgS, hgl, hg⟩ := SmRow.at hr (by omega)
    obtain ⟨oe, ob, ol, ce, cb, cl, hsV, hse, hsb, hsl, hc⟩ := hg j s hsj
    have hks := hok.2 j s hsj
    have hz := mem_size hsj
    have hB : szo s.body < szo es := by have : szo s.body < szo s := by cases s; exact sm_size.1
                                        omega
    have hL : szo s.els < szo es := by have : szo s.els < szo s := by cases s; exact sm_size.2
                                       omega
    have st := stK
    clear stK
    refine vc_code_skip (vq_then (vk4 1 2 5 6 (vc_seq (vc_block (vc_seq (vc_region ?_))))))
    iterate 2 refine ym ?_
    refine vy (y_ia (k := j) rfl rfl underlying65 sizeOf67 rfl (by omega)) ?_
    refine vy (y_ldca (smL s oe ob ol ce cb cl) rfl isAgg67 sizeOf67 rfl (fun i v hi => st.chg.cell (hc i v hi) (by simp))) ?_
    refine vc_e (e_al (l := [_, _, _, _, _, _, _]) st rfl rfl zeroValue67 rfl ?_)
    intro b7 w hb7 st
    refine vc_e (e_sts (vs := [_, _, _, _, _, _, _]) st 0 rfl rfl rfl rfl rfl sizeOf67 rfl rfl (by (right; assumption)) ?_)
    intro w st; dsimp only [setNth, wr] at st
    refine vc_end (vq_then (vk5 1 2 5 6 7 (vc_seq (vc_region ?_))))
    refine yla st 1 [_, _, _] isAgg99 sizeOf99 ?_
    refine yfz 1 underlying67 sizeOf9 ?_
    refine yl st 0 isAgg9 ?_
    refine vc_e (e_call [_, _] rfl rfl call127 rfl (tname_any b fr tn s.nm _) ?_)
    rintro _ w ⟨rfl, cw⟩
    replace st := st.call0 cw
    refine yfz 1 underlying67 sizeOf9 ?_
    refine vc_e (e_st st 0 rfl rfl rfl rfl sizeOf9 rfl rfl (by (right; assumption)) ?_)
    intro w st; dsimp only [setNth, wr] at st
    refine vc_end (vq_then (vk5 1 2 5 6 7 (vc_seq (vc_region ?_))))
    refine yla st 1 [_, _, _] isAgg99 sizeOf99 ?_
    refine yfz 2 underlying67 sizeOf9 ?_
    refine yl st 0 isAgg9 ?_
    refine vc_e (e_call [_, _] rfl rfl call127 rfl (tname_any b fr tn s.other _) ?_)
    rintro _ w ⟨rfl, cw⟩
    replace st := st.call0 cw
    refine yfz 2 underlying67 sizeOf9 ?_
    refine vc_e (e_st st 0 rfl rfl rfl rfl sizeOf9 rfl rfl (by (right; assumption)) ?_)
    intro w st; dsimp only [setNth, wr] at st
    refine vc_end (vq_then (vk5 1 2 5 6 7 (vc_seq (vc_region ?_))))
    refine yla st 1 [_, _, _] isAgg99 sizeOf99 ?_
    refine yfz 3 underlying67 sizeOf40 ?_
    refine yl st 0 isAgg40 ?_
    refine vc_e (e_call [_, _] rfl rfl call160 rfl (texprs_any b fr tn _ s.e rfl hks.e _ _ _ (hse.kept (Same.of_nil st.chg)) (Nat.le_trans hn0 st.chg.size)) ?_)
    rintro _ w ⟨q1, c1, S1, rfl, hQ, hN, cw⟩
    have hN1 := hN.le st.chg.size
    replace st := St.pushR (r := .tree S1 (fun w => ExRQ w q1 c1 (trEs (tnm fr tn) (tat b) s.e) S1)) st cw (holds_of hQ hQ.lt (fun a b h hk => h.kept hk)) hN.2
    refine yfz 3 underlying67 sizeOf40 ?_
    refine vc_e (e_st st 1 rfl rfl rfl rfl sizeOf40 rfl rfl (by (right; assumption)) ?_)
    intro w st; dsimp only [setNth, wr] at st
    refine vc_end (vq_then (vk5 1 2 5 6 7 (vc_seq (vc_region ?_))))
    refine yla st 2 [_, _, _] isAgg99 sizeOf99 ?_
    refine yfz 4 underlying67 sizeOf65 ?_
    refine yl st 1 isAgg65 ?_
    refine vc_e (e_call [_, _] rfl rfl call128 rfl (ih _ hB s.body rfl hks.body _ _ _ (hsb.kept (Same.of_nil st.chg)) (Nat.le_trans hn0 st.chg.size)) ?_)
    rintro _ w ⟨q2, c2, S2, rfl, hQ, hN, cw⟩
    have hN2 := hN.le st.chg.size
    replace st := St.pushR (r := .tree S2 (fun w => SmRQ w q2 c2 (trSs (tnm fr tn) (tat b) s.body) S2)) st cw (holds_of hQ hQ.lt (fun a b h hk => h.kept hk)) hN.2
    refine yfz 4 underlying67 sizeOf65 ?_
    refine vc_e (e_st st 2 rfl rfl rfl rfl sizeOf65 rfl rfl (by (right; assumption)) ?_)
    intro w st; dsimp only [setNth, wr] at st
    refine vc_end (vq_then (vk5 1 2 5 6 7 (vc_seq (vc_region ?_))))
    refine yla st 3 [_, _, _] isAgg99 sizeOf99 ?_
    refine yfz 5 underlying67 sizeOf65 ?_
    refine yl st 2 isAgg65 ?_
    refine vc_e (e_call [_, _] rfl rfl call128 rfl (ih _ hL s.els rfl hks.els _ _ _ (hsl.kept (Same.of_nil st.chg)) (Nat.le_trans hn0 st.chg.size)) ?_)
    rintro _ w ⟨q3, c3, S3, rfl, hQ, hN, cw⟩
    have hN3 := hN.le st.chg.size
    replace st := St.pushR (r := .tree S3 (fun w => SmRQ w q3 c3 (trSs (tnm fr tn) (tat b) s.els) S3)) st cw (holds_of hQ hQ.lt (fun a b h hk => h.kept hk)) hN.2
    refine yfz 5 underlying67 sizeOf65 ?_
    refine vc_e (e_st st 3 rfl rfl rfl rfl sizeOf65 rfl rfl (by (right; assumption)) ?_)
    intro w st; dsimp only [setNth, wr] at st
    refine vc_end (vq_then (vk5 1 2 5 6 7 (vc_seq (vc_region ?_))))
    refine yla st 4 [_, _, _] isAgg99 sizeOf99 ?_
    refine yfz 6 underlying67 sizeOf3 ?_
    refine yl st 3 isAgg3 ?_
    refine vc_e (e_call [_, _] rfl rfl call129 rfl (tat_any b fr tn s.a _) ?_)
    rintro _ w ⟨rfl, cw⟩
    replace st := st.call0 cw
    refine yfz 6 underlying67 sizeOf3 ?_
    refine vc_e (e_st st 3 rfl rfl rfl rfl sizeOf3 rfl rfl (by (right; assumption)) ?_)
    intro w st; dsimp only [setNth, wr] at st
    refine vc_end (vq_then (vk5 1 2 5 6 7 (vc_region ?_)))
    refine ym ?_
    refine yla st 3 [_, _, _, _, _, _, _] isAgg67 sizeOf67 ?_
    refine vc_e (e_bs1 (l := [_, _, _, _, _, _, _]) st rfl rfl rfl rfl underlying65 sizeOf67 rfl rfl rfl zeroValue67 ?_)
    intro b50 w hb50 st
    refine vc_e (e_app (bytes := 120) st 6 0 rfl rfl rfl rfl rfl rfl underlying65 Tryz.info67 rfl rfl rfl rfl rfl (by simp) rfl rfl (by unfold maxLen; omega) (by omega) ?_)
    intro oaQ capQ w st; dsimp only [setNth] at st
    refine ya ?_
    refine vc_end (vq_block (vq_then (vk4 1 2 5 6 (vc_region ?_))))
    have d23 := st.ne (i := 2) (j := 1) (by decide) rfl rfl
    have d12 := st.ne (i := 3) (j := 2) (by decide) rfl rfl
    have d13 := st.ne (i := 3) (j := 1) (by decide) rfl rfl
    have dS1 := st.ne (i := 7) (j := 3) (by decide) rfl rfl
    have dS2 := st.ne (i := 7) (j := 2) (by decide) rfl rfl
    have dS3 := st.ne (i := 7) (j := 1) (by decide) rfl rfl
    have hNq := hN1.app (hN2.app hN3 d23) (fun b hb hb' => (List.mem_append.1 hb').elim (d12 b hb) (d13 b hb))
    have hne : ∀ b ∈ S, b ∉ S1 ++ (S2 ++ S3) := fun b hb hb' => (List.mem_append.1 hb').elim (dS1 b hb) fun h => (List.mem_append.1 h).elim (dS2 b hb) (dS3 b hb)
    have h0 := (st.res (i := 7) rfl).1
    have h1 := (st.res (i := 3) rfl).1
    have h2 := (st.res (i := 2) rfl).1
    have h3 := (st.res (i := 1) rfl).1
    have h4 : SmSs 42 67 w ((trSs (tnm fr tn) (tat b) es).take (j + 1)) (xs ++ smT (tnm fr tn) (tat b) s q1 q2 q3 c1 c2 c3) (S ++ (S1 ++ (S2 ++ S3))) := by rw [take_snoc (trSs_at hsj)]; exact SmSs.snoc h0 (SmS_iff.2 ⟨q1, c1, q2, c2, q3, c3, S1, S2, S3, smT_eq _ _ _ _ _ _ _ _ _, by rw [trS_e]; exact h1, by rw [trS_b]; exact h2, by rw [trS_l]; exact h3, rfl⟩)
    have stN := (((st.pick [7, 3, 2, 1, 6, 5] rfl (by decide)).joinN 4 (q := .tree (S ++ (S1 ++ (S2 ++ S3))) fun w => SmSs 42 67 w ((trSs (tnm fr tn) (tat b) es).take (j + 1)) (xs ++ smT (tnm fr tn) (tat b) s q1 q2 q3 c1 c2 c3) (S ++ (S1 ++ (S2 ++ S3)))) (fun k hk => by
      simp only [Res.at?, List.mem_append] at hk
      rcases hk with h | h | h | h
      · exact ⟨_, .head _, h⟩
      · exact ⟨_, .tail _ (.head _), h⟩
      · exact ⟨_, .tail _ (.tail _ (.head _)), h⟩
      · exact ⟨_, .tail _ (.tail _ (.tail _ (.head _))), h⟩) (holds_of h4 h4.lt (fun a b h hk => h.kept hk)))).pick [2, 1, 0] rfl (by decide)
    refine ym ?_
    refine vy (y_add rfl rfl (by omega : _ = ((j + 1 : Nat) : Int)) (by omega) (by omega)) ?_
    refine ya ?_
    refine vc_end ?_
    refine vq_again (j + 1, oaQ, capQ, xs ++ smT (tnm fr tn) (tat b) s q1 q2 q3 c1 c2 c3, S ++ (S1 ++ (S2 ++ S3)))  ⟨rfl, rfl, rfl, rfl, trivial⟩ stN ?_ ?_
    · exact ⟨by dsimp only; omega, hSS.app hNq hne⟩
    · dsimp only; omega
  · intro hc11
    try simp only [dn] at hc11
    refine vc_exit (vq_then_exit (vq_then_exit (vq_block_exit (vq_then (vk1 5 (vc_seq (vc_region ?_)))))))
    refine ym ?_
    refine ya ?_
    refine vc_end (vq_then (vk1 4 (vc_ret ?_)))
    refine vq_ret1 st (.inl rfl) results128 (.tmp rfl) ?_
    refine ⟨_, rfl, ?_⟩
    obtain rfl : j = es.length := by omega
    rw [List.take_of_length_le (by rw [trSs_len]; omega)] at st
    rw [← trSs_len (g := tnm fr tn) (h := tat b) es] at st
    obtain ⟨h1, h2⟩ := st.ownNw (i := 1) rfl
    have h3 := (st.res (i := 2) rfl).1
    exact ⟨oj, cj, obk oj ++ S, rfl, ⟨xs, S, h1, rfl, h3⟩, h2.app hSS (fun b hb => st.ne (i := 1) (j := 2) (by decide) rfl rfl b (by simpa [Res.at?, obk_own] using hb)), st.chg⟩

set_option maxHeartbeats 4000000 in
theorem tprog_any (b : Bool) (fr tn : Wd) (p : Pg) (hok : OkP p) (os ol ot : Option Addr) (cs cl ct : Nat) (w : World) (hSh : DcRow w (· < n0) os p.shared) (hL : DcRow w (· < n0) ol p.locks) (hT : ThRow w (· < n0) ot p.threads) (hn0 : n0 ≤ w.heap.size) :
    Ret Tryz.prog 59 [.agg (tvL b fr tn).toArray, .agg (pgL p os ol ot cs cl ct).toArray] w fun v w' => ∃ l S, v = .agg l.toArray ∧ PgQ w' (trP (tnm fr tn) (tat b) p) l S ∧ Nw w.heap.size S ∧ Chg [] w w' := by
  refine ret_of [_, _] func59 rfl ntmps59 rfl ?_
  have st := St.init w []
  obtain ⟨w0, rfl⟩ : ∃ w0, w0 = w := ⟨_, rfl⟩
  have hn1 := hok.1.1
  have hn2 := hok.2.1.1
  have hn3 := hok.2.2.1
  refine vc_seq (vc_region ?_)
  refine vc_e (e_bx (l := [_, _, _]) st rfl rfl rfl rfl ?_)
  intro b2 w hb2 st
  refine vc_e (e_bx (l := [_, _, _]) st rfl rfl rfl rfl ?_)
  intro b3 w hb3 st
  refine vc_e (e_al (l := [_, _, _]) st rfl rfl zeroValue26 rfl ?_)
  intro b4 w hb4 st
  refine vc_end (vq_then (vk3 2 3 4 ?_))
  refine vc_cut (w0 := w0) (M := []) (fun (z : Option Addr × Nat × List Nat × Option Addr × Nat × List Nat × Nat) => [(2, .pointer (some ⟨b2, 0, none⟩)), (3, .pointer (some ⟨b3, 0, none⟩)), (4, .pointer (some ⟨b4, 0, none⟩)), (5, .pointer (some ⟨z.2.2.2.2.2.2, 0, none⟩))]) (fun z => [.blk z.2.2.2.2.2.2 (.cells [.slice z.1 p.shared.length z.2.1, .slice z.2.2.2.1 p.locks.length z.2.2.2.2.1, .slice none 0 0].toArray 26 (0, 0)), .tree z.2.2.2.2.2.1 (fun w => DcRQ w z.2.2.2.1 z.2.2.2.2.1 (p.locks.map (trD (tnm fr tn) (tat b))) z.2.2.2.2.2.1), .tree z.2.2.1 (fun w => DcRQ w z.1 z.2.1 (p.shared.map (trD (tnm fr tn) (tat b))) z.2.2.1), .blk b4 (.cells [.slice none 0 0, .slice none 0 0, .slice none 0 0].toArray 26 (0, 0)), .blk b3 (.cells (pgL p os ol ot cs cl ct).toArray 26 (0, 0)), .blk b2 (.cells (tvL b fr tn).toArray 99 (0, 0))]) (fun z _ => w0.heap.size ≤ z.2.2.2.2.2.2 ∧ Nw w0.heap.size z.2.2.1 ∧ Nw w0.heap.size z.2.2.2.2.2.1) ?_ ?_
  ·
    refine vd_draw Tryz.mixed (.take 0 (.take 1 (.take 2 (.take 4 (.take 5 (.take 6 (.two 3 9 (.two 7 9 (.take 8 (.one 9 (.one 10 .done))) (.one 7 (.take 8 (.one 10 .done)))) (.one 3 (.one 7 (.take 8 (.one 10 .done))))))))))) (fun w => St _ _ [.blk b4 (.cells [.slice none 0 0, .slice none 0 0, .slice none 0 0].toArray 26 (0, 0)), .blk b3 (.cells (pgL p os ol ot cs cl ct).toArray 26 (0, 0)), .blk b2 (.cells (tvL b fr tn).toArray 99 (0, 0))] w) (by exact st) (by kernel_rfl) (by repeat (first | exact okQ_noPan | exact okQ_body | exact okQ_bodyS | refine okQ_then ?_ | refine okQ_block ?_)) rfl (by kernel_rfl) ?_
    intro w cd; replace st := st.call0 cd; clear cd
    have hS : St _ _ [.blk b4 (.cells [.slice none 0 0, .slice none 0 0, .slice none 0 0].toArray 26 (0, 0)), .blk b3 (.cells (pgL p os ol ot cs cl ct).toArray 26 (0, 0)), .blk b2 (.cells (tvL b fr tn).toArray 99 (0, 0))] w := (by exact st)
    refine vd_take rfl rfl rfl hS (fun w st => y_lda (vs := [_, _, _]) st 2 rfl isAgg99 sizeOf99 rfl rfl) ?_
    refine df0 hS underlying26 sizeOf23 ?_
    refine dld hS 1 isAgg23 ?_
    refine vd_take rfl rfl rfl hS (fun w st => y_lda (vs := [_, _, _]) st 2 rfl isAgg99 sizeOf99 rfl rfl) ?_
    refine dfz hS 1 underlying26 sizeOf23 ?_
    refine dld hS 1 isAgg23 ?_
    refine vd_two rfl rfl ?_ ?_
    ·
      refine (e_call [_, _] rfl rfl call126 rfl (tdecls_any b fr tn p.shared hn1 _ _ _ (RowC.kept hSh (Same.of_nil st.chg))) ?_)
      rintro _ w ⟨s1o, s1c, S1, rfl, hQ, hN, cw⟩
      have hN1 := hN.le st.chg.size
      replace st := St.pushR (r := .tree S1 (fun w => DcRQ w s1o s1c (p.shared.map (trD (tnm fr tn) (tat b))) S1)) st cw (holds_of hQ hQ.lt (fun a b h hk => h.kept hk)) hN.2
      refine vd_next st.dr ?_; intro hS
      refine vd_two rfl rfl ?_ ?_
      ·
        refine (e_call [_, _] rfl rfl call126 rfl (tdecls_any b fr tn p.locks hn2 _ _ _ (RowC.kept hL (Same.of_nil st.chg))) ?_)
        rintro _ w ⟨s2o, s2c, S2, rfl, hQ, hN, cw⟩
        have hN2 := hN.le st.chg.size
        replace st := St.pushR (r := .tree S2 (fun w => DcRQ w s2o s2c (p.locks.map (trD (tnm fr tn) (tat b))) S2)) st cw (holds_of hQ hQ.lt (fun a b h hk => h.kept hk)) hN.2
        refine vd_next st.dr ?_; intro hS
        refine vd_take rfl rfl rfl hS (fun w st => y_bld (.agg #[_, _, _]) [(0, _), (1, _)] rfl (fun w => by simp [Instr.build, go_sem] <;> repeat' constructor)) ?_
        refine vd_do rfl (e_al (l := [_, _, _]) st rfl rfl zeroValue26 rfl ?_)
        intro b5 w hb5 st
        refine vd_next st.dr ?_; intro hS
        refine vd_do rfl (e_sts (vs := [_, _, _]) st 0 rfl rfl rfl rfl rfl sizeOf26 rfl rfl (by (right; assumption)) ?_)
        intro w st; dsimp only [setNth, wr] at st
        refine vd_next st.dr ?_; intro hS
        refine vd_end ?_
        refine vq_meet (s1o, s1c, S1, s2o, s2c, S2, b5) ⟨rfl, rfl, rfl, rfl, trivial⟩ (by exact st.pick [0, 1, 2, 3, 4, 5] rfl (by decide)) ?_
        · exact ⟨by assumption, hN1, hN2⟩
      ·
        refine (e_al (l := [_, _, _]) st rfl rfl zeroValue26 rfl ?_)
        intro b5 w hb5 st
        refine vd_next st.dr ?_; intro hS
        refine vd_do rfl (e_call [_, _] rfl rfl call126 rfl (tdecls_any b fr tn p.locks hn2 _ _ _ (RowC.kept hL (Same.of_nil st.chg))) ?_)
        rintro _ w ⟨s2o, s2c, S2, rfl, hQ, hN, cw⟩
        have hN2 := hN.le st.chg.size
        replace st := St.pushR (r := .tree S2 (fun w => DcRQ w s2o s2c (p.locks.map (trD (tnm fr tn) (tat b))) S2)) st cw (holds_of hQ hQ.lt (fun a b h hk => h.kept hk)) hN.2
        refine vd_next st.dr ?_; intro hS
        refine vd_take rfl rfl rfl hS (fun w st => y_bld (.agg #[_, _, _]) [(0, _), (1, _)] rfl (fun w => by simp [Instr.build, go_sem] <;> repeat' constructor)) ?_
        refine vd_do rfl (e_sts (vs := [_, _, _]) st 1 rfl rfl rfl rfl rfl sizeOf26 rfl rfl (by (right; assumption)) ?_)
        intro w st; dsimp only [setNth, wr] at st
        refine vd_next st.dr ?_; intro hS
        refine vd_end ?_
        refine vq_meet (s1o, s1c, S1, s2o, s2c, S2, b5) ⟨rfl, rfl, rfl, rfl, trivial⟩ (by exact st.pick [1, 0, 2, 3, 4, 5] rfl (by decide)) ?_
        · exact ⟨by assumption, hN1, hN2⟩
    ·
      refine (e_al (l := [_, _, _]) st rfl rfl zeroValue26 rfl ?_)
      intro b5 w hb5 st
      refine vd_next st.dr ?_; intro hS
      refine vd_do rfl (e_call [_, _] rfl rfl call126 rfl (tdecls_any b fr tn p.shared hn1 _ _ _ (RowC.kept hSh (Same.of_nil st.chg))) ?_)
      rintro _ w ⟨s1o, s1c, S1, rfl, hQ, hN, cw⟩
      have hN1 := hN.le st.chg.size
      replace st := St.pushR (r := .tree S1 (fun w => DcRQ w s1o s1c (p.shared.map (trD (tnm fr tn) (tat b))) S1)) st cw (holds_of hQ hQ.lt (fun a b h hk => h.kept hk)) hN.2
      refine vd_next st.dr ?_; intro hS
      refine vd_do rfl (e_call [_, _] rfl rfl call126 rfl (tdecls_any b fr tn p.locks hn2 _ _ _ (RowC.kept hL (Same.of_nil st.chg))) ?_)
      rintro _ w ⟨s2o, s2c, S2, rfl, hQ, hN, cw⟩
      have hN2 := hN.le st.chg.size
      replace st := St.pushR (r := .tree S2 (fun w => DcRQ w s2o s2c (p.locks.map (trD (tnm fr tn) (tat b))) S2)) st cw (holds_of hQ hQ.lt (fun a b h hk => h.kept hk)) hN.2
      refine vd_next st.dr ?_; intro hS
      refine vd_take rfl rfl rfl hS (fun w st => y_bld (.agg #[_, _, _]) [(0, _), (1, _)] rfl (fun w => by simp [Instr.build, go_sem] <;> repeat' constructor)) ?_
      refine vd_do rfl (e_sts (vs := [_, _, _]) st 2 rfl rfl rfl rfl rfl sizeOf26 rfl rfl (by (right; assumption)) ?_)
      intro w st; dsimp only [setNth, wr] at st
      refine vd_next st.dr ?_; intro hS
      refine vd_end ?_
      refine vq_meet (s1o, s1c, S1, s2o, s2c, S2, b5) ⟨rfl, rfl, rfl, rfl, trivial⟩ (by exact st.pick [2, 0, 1, 3, 4, 5] rfl (by decide)) ?_
      · exact ⟨by assumption, hN1, hN2⟩
  ·
    clear st
    rintro ⟨s1o, s1c, S1, s2o, s2c, S2, b5⟩ w ⟨hb5, hN1, hN2⟩ st
    dsimp only at *
    refine vc_seq (vc_seq (vc_region ?_))
    replace st := St.pushR (r := .tree [] (fun w => ThSs 42 67 63 w [] [] [])) st (Chg.refl _ _) (holds_of (by simp [ThSs]) (by simp) (fun a b h hk => h.kept hk)) (by simp [Res.at?])
    replace st := st.ownNil 69 4
    refine ya ?_
    refine vc_end (vq_then (vk5 2 3 4 5 6 (vc_block ?_)))
    refine vc_loop (w0 := w0) (M := []) (fun (y : Nat × Option Addr × Nat × List Value × List Nat) => [(2, .pointer (some ⟨b2, 0, none⟩)), (3, .pointer (some ⟨b3, 0, none⟩)), (4, .pointer (some ⟨b4, 0, none⟩)), (5, .pointer (some ⟨b5, 0, none⟩)), (6, .int .i64 (y.1 : Int))]) (fun y => [.own (.slice y.2.1 y.1 y.2.2.1) 69 4 y.1 y.2.2.2.1, .tree y.2.2.2.2 (fun w => ThSs 42 67 63 w ((p.threads.map (trT (tnm fr tn) (tat b))).take y.1) y.2.2.2.1 y.2.2.2.2), .blk b5 (.cells [.slice s1o p.shared.length s1c, .slice s2o p.locks.length s2c, .slice y.2.1 y.1 y.2.2.1].toArray 26 (0, 0)), .tree S2 (fun w => DcRQ w s2o s2c (p.locks.map (trD (tnm fr tn) (tat b))) S2), .tree S1 (fun w => DcRQ w s1o s1c (p.shared.map (trD (tnm fr tn) (tat b))) S1), .blk b4 (.cells [.slice none 0 0, .slice none 0 0, .slice none 0 0].toArray 26 (0, 0)), .blk b3 (.cells (pgL p os ol ot cs cl ct).toArray 26 (0, 0)), .blk b2 (.cells (tvL b fr tn).toArray 99 (0, 0))]) (fun y _ => y.1 ≤ p.threads.length ∧ Nw w0.heap.size y.2.2.2.2) (fun y => p.threads.length - y.1) (0, none, 0, [], []) ⟨rfl, rfl, rfl, rfl, rfl, trivial⟩ (by simpa using st.pick [0, 1, 2, 3, 4, 5, 6, 7] rfl (by decide)) ⟨by simp, Nw.nil⟩ ?_
    clear st
    rintro ⟨j, oj, cj, xs, S⟩ w ⟨hj, hSS⟩ st
    dsimp only at *
    refine vc_seq (vc_seq (vc_region ?_))
    refine ym ?_
    refine yfz 2 underlying26 sizeOf24 ?_
    refine yl st 6 isAgg24 ?_
    refine vy (y_lensl rfl underlying24) ?_
    refine vy (y_lss rfl rfl) ?_
    refine vc_end (vq_then (vk6 2 3 4 5 6 21 ?_))
    refine vc_ifs rfl ?_ ?_
    · intro hc21
      try simp only [dn] at hc21
      have stK := st
      obtain ⟨t, htj⟩ : ∃ t, p.threads[j]? = some t := ⟨_, List.getElem?_eq_getElem (by omega)⟩
      obtain ⟨gb, go, rfl, hgS, hgl, hg⟩ := ThRow.at hT (by omega)
      obtain ⟨tl, tb, cll, cbb, htl, htb, hc⟩ := hg j t htj
      have hkt := hok.2.2.2 j t htj
      have st := stK
      clear stK
      refine vc_code_skip (vq_then (vk5 2 3 4 5 6 (vc_seq (vc_block (vc_seq (vc_region ?_))))))
      refine yfz 2 underlying26 sizeOf24 ?_
      refine yl st 6 isAgg24 ?_
      refine ym ?_
      refine vy (y_ia (k := j) rfl rfl underlying24 sizeOf69 rfl (by omega)) ?_
      refine vy (y_ldca (thL t tl tb cll cbb) rfl isAgg69 sizeOf69 rfl (fun i v hi => st.chg.cell (hc i v hi) (by simp))) ?_
      refine vc_e (e_al (l := [_, _, _, _]) st rfl rfl zeroValue69 rfl ?_)
      intro b7 w hb7 st
      refine vc_e (e_sts (vs := [_, _, _, _]) st 0 rfl rfl rfl rfl rfl sizeOf69 rfl rfl (by (right; assumption)) ?_)
      intro w st; dsimp only [setNth, wr] at st
      refine vc_end (vq_then (vk6 2 3 4 5 6 7 ?_))
      refine vk_draw Tryz.mixed [(0, true), (3, true), (7, true), (11, true), (15, true), (1, true), (2, true), (4, true), (6, true), (8, true), (10, true), (12, true), (14, true), (16, true), (5, false), (9, false), (13, false), (17, false), (18, true), (19, false), (20, false), (21, true), (22, false)] 22 (fun w => St _ _ [.blk b7 (.cells (thL t tl tb cll cbb).toArray 69 (0, 0)), .blk b5 (.cells [.slice s1o p.shared.length s1c, .slice s2o p.locks.length s2c, .slice oj j cj].toArray 26 (0, 0)), .blk b2 (.cells (tvL b fr tn).toArray 99 (0, 0))] w) st.dr (by kernel_rfl) (by repeat (first | exact okQ_noPan | exact okQ_body | exact okQ_bodyS | refine okQ_then ?_ | refine okQ_block ?_)) rfl (by kernel_rfl) rfl ?_
      intro w cd; replace st := st.call0 cd; clear cd
      have hS : St _ _ [.blk b7 (.cells (thL t tl tb cll cbb).toArray 69 (0, 0)), .blk b5 (.cells [.slice s1o p.shared.length s1c, .slice s2o p.locks.length s2c, .slice oj j cj].toArray 26 (0, 0)), .blk b2 (.cells (tvL b fr tn).toArray 99 (0, 0))] w := st.dr
      refine vk_takeU rfl rfl rfl rfl (fun _ => hS) (fun w => (by exact y_faz (k := 2) rfl underlying26 rfl rfl sizeOf24 rfl)) ?_
      refine vk_takeU rfl rfl rfl rfl (fun _ => hS) (fun w => y_fa0 rfl underlying69 rfl rfl sizeOf9 rfl) ?_
      refine vk_takeU rfl rfl rfl rfl (fun _ => hS) (fun w => (by exact y_faz (k := 1) rfl underlying69 rfl rfl sizeOf23 rfl)) ?_
      refine vk_takeU rfl rfl rfl rfl (fun _ => hS) (fun w => (by exact y_faz (k := 2) rfl underlying69 rfl rfl sizeOf65 rfl)) ?_
      refine vk_takeU rfl rfl rfl rfl (fun _ => hS) (fun w => (by exact y_faz (k := 3) rfl underlying69 rfl rfl sizeOf3 rfl)) ?_
      refine vk_take rfl rfl rfl rfl hS (fun w st => y_ld st 1 rfl isAgg24 rfl rfl) ?_
      refine vk_take rfl rfl rfl rfl hS (fun w st => y_lda (vs := [_, _, _]) st 2 rfl isAgg99 sizeOf99 rfl rfl) ?_
      refine vk_take rfl rfl rfl rfl hS (fun w st => y_ld st 0 rfl isAgg9 rfl rfl) ?_
      refine vk_take rfl rfl rfl rfl hS (fun w st => y_lda (vs := [_, _, _]) st 2 rfl isAgg99 sizeOf99 rfl rfl) ?_
      refine vk_take rfl rfl rfl rfl hS (fun w st => y_ld st 0 rfl isAgg23 rfl rfl) ?_
      refine vk_take rfl rfl rfl rfl hS (fun w st => y_lda (vs := [_, _, _]) st 2 rfl isAgg99 sizeOf99 rfl rfl) ?_
      refine vk_take rfl rfl rfl rfl hS (fun w st => y_ld st 0 rfl isAgg65 rfl rfl) ?_
      refine vk_take rfl rfl rfl rfl hS (fun w st => y_lda (vs := [_, _, _]) st 2 rfl isAgg99 sizeOf99 rfl rfl) ?_
      refine vk_take rfl rfl rfl rfl hS (fun w st => y_ld st 0 rfl isAgg3 rfl rfl) ?_
      refine vk_do rfl rfl (e_call [_, _] rfl rfl call127 rfl (tname_any b fr tn t.nm _) ?_)
      rintro _ w ⟨rfl, cw⟩
      replace st := st.call0 cw
      refine vk_next st.dr ?_; intro hS
      refine vk_do rfl rfl (e_call [_, _] rfl rfl call126 rfl (tdecls_any b fr tn t.locals hkt.1.1 _ _ _ (RowC.kept htl (Same.of_nil st.chg))) ?_)
      rintro _ w ⟨s3o, s3c, S3, rfl, hQ, hN, cw⟩
      have hN3 := hN.le st.chg.size
      replace st := St.pushR (r := .tree S3 (fun w => DcRQ w s3o s3c (t.locals.map (trD (tnm fr tn) (tat b))) S3)) st cw (holds_of hQ hQ.lt (fun a b h hk => h.kept hk)) hN.2
      refine vk_next st.dr ?_; intro hS
      refine vk_do rfl rfl (e_call [_, _] rfl rfl call128 rfl (tstmts_any b fr tn _ t.body rfl hkt.2.1 _ _ _ (htb.kept (Same.of_nil st.chg)) (Nat.le_trans hn0 st.chg.size)) ?_)
      rintro _ w ⟨s4o, s4c, S4, rfl, hQ, hN, cw⟩
      have hN4 := hN.le st.chg.size
      replace st := St.pushR (r := .tree S4 (fun w => SmRQ w s4o s4c (trSs (tnm fr tn) (tat b) t.body) S4)) st cw (holds_of hQ hQ.lt (fun a b h hk => h.kept hk)) hN.2
      refine vk_next st.dr ?_; intro hS
      refine vk_do rfl rfl (e_call [_, _] rfl rfl call129 rfl (tat_any b fr tn t.a _) ?_)
      rintro _ w ⟨rfl, cw⟩
      replace st := st.call0 cw
      refine vk_next st.dr ?_; intro hS
      refine vk_takeU rfl rfl rfl rfl (fun _ => hS) (fun w => y_bld (.agg #[_, _, _, _]) [(0, _), (1, _), (2, _), (3, _)] rfl (fun w => by simp [Instr.build, go_sem] <;> repeat' constructor)) ?_
      refine vk_do rfl rfl (e_bs1 (l := [_, _, _, _]) st rfl rfl rfl rfl underlying24 sizeOf69 rfl rfl rfl zeroValue69 ?_)
      intro b48 w hb48 st
      refine vk_next st.dr ?_; intro hS
      refine vk_do rfl rfl (e_app (bytes := 72) st 4 0 rfl rfl rfl rfl rfl rfl underlying24 Tryz.info69 rfl rfl rfl rfl rfl (by simp) rfl rfl (by unfold maxLen; omega) (by omega) ?_)
      intro oaQ capQ w st; dsimp only [setNth] at st
      refine vk_next st.dr ?_; intro hS
      refine vk_takeU rfl rfl rfl rfl (fun _ => hS) (fun w => (by exact y_faz (k := 2) rfl underlying26 rfl rfl sizeOf24 rfl)) ?_
      refine vk_do rfl rfl (e_st st 6 rfl rfl rfl rfl sizeOf24 rfl rfl (by (right; assumption)) ?_)
      intro w st; dsimp only [setNth, wr] at st
      refine vk_late ?_
      refine vk_end ?_
      refine vq_block (vq_then (vk5 2 3 4 5 6 (vc_region ?_)))
      have d34 := st.ne (i := 2) (j := 1) (by decide) rfl rfl
      have dS3 := st.ne (i := 5) (j := 2) (by decide) rfl rfl
      have dS4 := st.ne (i := 5) (j := 1) (by decide) rfl rfl
      have hNq := hN3.app hN4 d34
      have hne : ∀ b ∈ S, b ∉ S3 ++ S4 := fun b hb hb' => (List.mem_append.1 hb').elim (dS3 b hb) (dS4 b hb)
      have h0 := (st.res (i := 5) rfl).1
      have h3 := (st.res (i := 2) rfl).1
      have h4 := (st.res (i := 1) rfl).1
      have h5 : ThSs 42 67 63 w ((p.threads.map (trT (tnm fr tn) (tat b))).take (j + 1)) (xs ++ thT (tnm fr tn) (tat b) t s3o s4o s3c s4c) (S ++ (S3 ++ S4)) := by rw [take_snoc (by rw [List.getElem?_map, htj]; rfl : (p.threads.map (trT (tnm fr tn) (tat b)))[j]? = some (trT (tnm fr tn) (tat b) t))]; exact ThSs.snoc h0 ⟨s3o, s3c, s4o, s4c, S3, S4, thT_eq _ _ _ _ _ _ _, h3, h4, rfl⟩
      have stN := (((st.pick [5, 2, 1, 4, 6, 7, 8, 9, 10, 11] rfl (by decide)).joinN 3 (q := .tree (S ++ (S3 ++ S4)) fun w => ThSs 42 67 63 w ((p.threads.map (trT (tnm fr tn) (tat b))).take (j + 1)) (xs ++ thT (tnm fr tn) (tat b) t s3o s4o s3c s4c) (S ++ (S3 ++ S4))) (fun k hk => by
        simp only [Res.at?, List.mem_append] at hk
        rcases hk with h | h | h
        · exact ⟨_, .head _, h⟩
        · exact ⟨_, .tail _ (.head _), h⟩
        · exact ⟨_, .tail _ (.tail _ (.head _)), h⟩) (holds_of h5 h5.lt (fun a b h hk => h.kept hk)))).pick [1, 0, 2, 3, 4, 5, 6, 7] rfl (by decide)
      refine ym ?_
      refine vy (y_add rfl rfl (by omega : _ = ((j + 1 : Nat) : Int)) (by omega) (by omega)) ?_
      refine ya ?_
      refine vc_end ?_
      refine vq_again (j + 1, oaQ, capQ, xs ++ thT (tnm fr tn) (tat b) t s3o s4o s3c s4c, S ++ (S3 ++ S4))  ⟨rfl, rfl, rfl, rfl, rfl, trivial⟩ stN ?_ ?_
      · exact ⟨by dsimp only; omega, hSS.app hNq hne⟩
      · dsimp only; omega
    · intro hc21
      try simp only [dn] at hc21
      obtain rfl : j = p.threads.length := by omega
      rw [List.take_of_length_le (by simp)] at st
      refine vc_exit (vq_then_exit (vq_then_exit (vq_block_exit (vq_then (vk2 4 5 (vc_seq (vc_region ?_)))))))
      refine yla st 2 [_, _, _] isAgg26 sizeOf26 ?_
      refine vc_e (e_sts (vs := [_, _, _]) st 5 rfl rfl rfl rfl rfl sizeOf26 rfl rfl (by (right; assumption)) ?_)
      intro w st; dsimp only [setNth, wr] at st
      refine vc_end (vq_then (vk1 4 (vc_ret ?_)))
      refine vq_ret1 st (.inl rfl) results59 (by exact .cell 5 rfl rfl isAgg26 sizeOf26) ?_
      refine ⟨_, rfl, ?_⟩
      have hel : p.threads.length = (p.threads.map (trT (tnm fr tn) (tat b))).length := by simp
      have hes : p.shared.length = (p.shared.map (trD (tnm fr tn) (tat b))).length := by simp
      have hek : p.locks.length = (p.locks.map (trD (tnm fr tn) (tat b))).length := by simp
      obtain ⟨h1, h2⟩ := st.ownNw (i := 0) rfl
      rw [hel] at h1
      have h3 := (st.res (i := 1) rfl).1
      have h4 := (st.res (i := 4) rfl).1
      have h5 := (st.res (i := 3) rfl).1
      have e0 := st.ne (i := 0) (j := 1) (by decide) rfl rfl
      have e1 := st.ne (i := 4) (j := 3) (by decide) rfl rfl
      have e2 := st.ne (i := 4) (j := 0) (by decide) rfl rfl
      have e3 := st.ne (i := 4) (j := 1) (by decide) rfl rfl
      have e4 := st.ne (i := 3) (j := 0) (by decide) rfl rfl
      have e5 := st.ne (i := 3) (j := 1) (by decide) rfl rfl
      simp only [Res.at?, obk_own] at e0 e1 e2 e3 e4 e5
      exact ⟨_, S1 ++ (S2 ++ (obk oj ++ S)), rfl, ⟨s1o, s1c, s2o, s2c, oj, cj, S1, S2, obk oj ++ S, by simp [trP, ← hel], h4, h5, ⟨xs, S, h1, rfl, h3⟩, rfl⟩,
        hN1.app (hN2.app (h2.app hSS e0) (fun b hb hb' => (List.mem_append.1 hb').elim (e4 b hb) (e5 b hb))) (fun b hb hb' => (List.mem_append.1 hb').elim (e1 b hb) fun h => (List.mem_append.1 h).elim (e2 b hb) (e3 b hb)), st.chg⟩

end
end Go.Proofs.YtnmhlpnapgojjaaGreatDoor.Pq


/- Rows of words that are read, and their order in the model. -/
namespace Sx
open Go Go.RowKit
theorem bytesLess_lt : ∀ p q : List UInt8, Go.Op.bytesLess p q = decide (p < q)
  | [], [] => by simp [Go.Op.bytesLess]
  | _ :: _, [] => by simp [Go.Op.bytesLess]
  | [], _ :: _ => by simp [Go.Op.bytesLess]
  | a :: x, b :: y => by
    rw [Go.Op.bytesLess, bytesLess_lt x y, Bool.eq_iff_iff]
    simp [List.cons_lt_cons_iff]
section
variable {P : Program} {n : Fr} {L : List Oper} {Q : Exit → Act → World → Prop} {kn : Kn} {w w0 : World} {d ty : Nat} {pos : String} {aft : Array Edge} {g : Option (Nat × Bool)}
theorem y_lts {T U : Nat} {x y : Operand} {p q : List UInt8} (hx : evO kn x = some (str p)) (hy : evO kn y = some (str q)) : Y P n kn w ⟨some d, .binOp .lss T x y U, ty, pos, aft, g⟩ (.bool (decide (p < q))) :=
  y_bo hx hy (by simp [eqGuard, binOp, Op.stringOp, str_toList, bytesLess_lt])
/-- a row of words that is read -/
def SRow (w : World) (oa : Option Addr) (l : List Wd) : Prop := l = [] ∨ ∃ b off, oa = some ⟨b, off, none⟩ ∧ b < w.heap.size ∧ ∀ j x, l[j]? = some x → w.cell? ⟨b, off + j, none⟩ = some (str x)
theorem SRow.nil (w : World) (oa : Option Addr) : SRow w oa [] := .inl rfl
theorem SRow.kept {w w' : World} {oa : Option Addr} {l : List Wd} (h : SRow w oa l) (c : Chg [] w w') : SRow w' oa l :=
  h.imp id fun ⟨b, off, e, hb, hc⟩ => ⟨b, off, e, Nat.lt_of_lt_of_le hb c.size, fun j x hx => (World.cell?_of_block (c.block b hb (by simp))).trans (hc j x hx)⟩
theorem SRow.at {w : World} {oa : Option Addr} {l : List Wd} (h : SRow w oa l) (hn : 0 < l.length) : ∃ b off, oa = some ⟨b, off, none⟩ ∧ b < w.heap.size ∧ ∀ j x, l[j]? = some x → w.cell? ⟨b, off + j, none⟩ = some (str x) := by
  rcases h with rfl | h
  · simp at hn
  · exact h
theorem SRow.rd {w : World} {oa : Option Addr} {l : List Wd} (h : SRow w oa l) (k : Nat) : RdRowC w oa ((l.take k).map str) := by
  rcases h with rfl | ⟨b, off, rfl, hb, hc⟩
  · exact .inl (by simp)
  · refine .inr ⟨_, rfl, fun j u hu => ?_⟩
    rw [List.getElem?_map, List.getElem?_take] at hu
    split at hu
    · cases hx : l[j]? with
      | none => rw [hx] at hu; simp at hu
      | some x =>
        rw [hx] at hu
        simp only [Option.map_some, Option.some.injEq] at hu
        subst hu
        rw [addr_add]; exact hc j x hx
    · simp at hu
theorem SRow.rdl {w : World} {oa : Option Addr} {l : List Wd} (h : SRow w oa l) (k cap : Nat) (hk : k ≤ l.length) (hc : l.length ≤ cap) : RdRowC w (if cap = k then oa else oa.map fun x => x.add (k * 1)) ((l.drop k).map str) := by
  rcases Nat.eq_or_lt_of_le hk with e | hlt
  · exact .inl (by rw [e]; simp)
  · rw [if_neg (by omega)]
    rcases h with rfl | ⟨b, off, rfl, hb, hc⟩
    · simp at hlt
    · refine .inr ⟨_, rfl, fun j u hu => ?_⟩
      rw [List.getElem?_map, List.getElem?_drop] at hu
      cases hx : l[k + j]? with
      | none => rw [hx] at hu; simp at hu
      | some x =>
        rw [hx] at hu
        simp only [Option.map_some, Option.some.injEq] at hu
        subst hu
        rw [Nat.mul_one]; show w.cell? ((Addr.add ⟨b, off, none⟩ k).add j) = _; rw [addr_add, addr_add, Nat.add_assoc]; exact hc _ x hx
theorem SRow.own {w : World} {base E n cap : Nat} {oa : Option Addr} {l : List Wd} (h : w.ownsRow base E 1 (.slice oa n cap) n (l.map str)) : SRow w oa l ∧ l.length = n ∧ n ≤ cap := by
  have hl : l.length = n := by have := h.1; simpa using this
  refine ⟨?_, hl, ?_⟩
  · rcases h.2 with ⟨hv, h0⟩ | ⟨gg, c, cur, hv, hb, hg, -, -, -, htake⟩
    · exact .inl (List.eq_nil_of_length_eq_zero (by omega))
    · obtain ⟨e, -, -⟩ := Value.slice.inj hv
      subst e
      refine .inr ⟨gg, 0, rfl, (Array.getElem?_eq_some_iff.1 hg).1, fun j x hx => ?_⟩
      have := h.cells (g := gg) (by simp [Value.ownBlock]) j (str x) (by rw [List.getElem?_map, hx]; rfl)
      rwa [addr_add] at this
  · rcases h.2 with ⟨hv, h0⟩ | ⟨gg, c, cur, hv, hb, hg, hle, -⟩
    · omega
    · obtain ⟨-, -, e⟩ := Value.slice.inj hv
      omega
theorem strs_one (l : List Wd) : ∀ u ∈ l.map str, u.oneCell' = true := by
  intro u hu
  obtain ⟨x, -, rfl⟩ := List.mem_map.1 hu
  rfl
/-- a slice of words -/
def SV (w : World) (v : Value) (l : List Wd) : Prop := ∃ oa ca, v = .slice oa l.length ca ∧ l.length ≤ ca ∧ SRow w oa l
theorem SV.kept {w w' : World} {v : Value} {l : List Wd} (h : SV w v l) (c : Chg [] w w') : SV w' v l := by
  obtain ⟨oa, ca, e, hl, hr⟩ := h
  exact ⟨oa, ca, e, hl, hr.kept c⟩
theorem SV.nil (w : World) : SV w (.slice none 0 0) [] := ⟨none, 0, rfl, Nat.le_refl _, .nil _ _⟩
theorem SV.own {w : World} {base E n cap : Nat} {oa : Option Addr} {l : List Wd} (h : w.ownsRow base E 1 (.slice oa n cap) n (l.map str)) : SV w (.slice oa n cap) l := by
  obtain ⟨h1, h2, h3⟩ := SRow.own h
  exact ⟨oa, cap, by rw [h2], by omega, h1⟩
end
end Sx


/- The names of a tree: no program in sight. -/
namespace LexS
open Sx
mutual
def nmsE : Ex → List Wd
  | .mk k op wd nm kids a => (if k = 2 then [nm] else []) ++ nmsEs kids
termination_by structural e => e
def nmsEs : List Ex → List Wd
  | [] => []
  | e :: r => nmsE e ++ nmsEs r
termination_by structural l => l
end
mutual
def nmsS : Sm → List Wd
  | .mk k nm other e body els a => [nm, other] ++ nmsEs e ++ nmsSs body ++ nmsSs els
termination_by structural e => e
def nmsSs : List Sm → List Wd
  | [] => []
  | e :: r => nmsS e ++ nmsSs r
termination_by structural l => l
end
def nmsT (t : Th) : List Wd := [t.nm] ++ t.locals.map (·.nm) ++ nmsSs t.body
def nmsP (p : Pg) : List Wd := (p.shared ++ p.locks).map (·.nm) ++ p.threads.flatMap nmsT
theorem nmsEs_flat (l : List Ex) : nmsEs l = l.flatMap nmsE := by
  induction l with
  | nil => rfl
  | cons x r ih => simp only [nmsEs, List.flatMap_cons, ih]
theorem nmsSs_flat (l : List Sm) : nmsSs l = l.flatMap nmsS := by
  induction l with
  | nil => rfl
  | cons x r ih => simp only [nmsSs, List.flatMap_cons, ih]
theorem nmsE_eq (e : Ex) : nmsE e = (if e.k = 2 then [e.nm] else []) ++ nmsEs e.kids := by cases e; rfl
theorem nmsS_eq (s : Sm) : nmsS s = [s.nm, s.other] ++ nmsEs s.e ++ nmsSs s.body ++ nmsSs s.els := by cases s; rfl
/-- a name is taken in, if it is one -/
def addK (s : Wd) (ks : List Wd) : List Wd := if s = [] then ks else insK s ks
def addAll (l : List Wd) (ks : List Wd) : List Wd := l.foldl (fun ks s => addK s ks) ks
theorem addAll_nil (ks : List Wd) : addAll [] ks = ks := rfl
theorem addAll_cons (s : Wd) (l ks : List Wd) : addAll (s :: l) ks = addAll l (addK s ks) := rfl
theorem addAll_app (a b ks : List Wd) : addAll (a ++ b) ks = addAll b (addAll a ks) := by simp [addAll, List.foldl_append]
theorem addK_nodup {s : Wd} {ks : List Wd} (h : ks.Nodup) : (addK s ks).Nodup := by unfold addK; split; exact h; exact insK_nodup h
theorem addAll_nodup {l : List Wd} : ∀ {ks : List Wd}, ks.Nodup → (addAll l ks).Nodup := by
  induction l with
  | nil => exact fun h => h
  | cons s r ih => exact fun h => ih (addK_nodup h)
theorem mem_addK {s x : Wd} {ks : List Wd} : x ∈ addK s ks ↔ (x = s ∧ s ≠ []) ∨ x ∈ ks := by
  unfold addK; split
  · rename_i h; simp [h]
  · rename_i h; rw [mem_insK]; simp [h]
theorem mem_addAll {l : List Wd} : ∀ {ks : List Wd} {x : Wd}, x ∈ addAll l ks ↔ (x ∈ l ∧ x ≠ []) ∨ x ∈ ks := by
  induction l with
  | nil => intro ks x; simp [addAll_nil]
  | cons s r ih =>
    intro ks x
    rw [addAll_cons, ih, mem_addK]
    constructor
    · rintro (⟨h1, h2⟩ | ⟨h1, h2⟩ | h)
      · exact .inl ⟨List.mem_cons_of_mem _ h1, h2⟩
      · exact .inl ⟨by rw [h1]; exact List.mem_cons_self, by rw [h1]; exact h2⟩
      · exact .inr h
    · rintro (⟨h1, h2⟩ | h)
      · rcases List.mem_cons.1 h1 with e | h
        · exact .inr (.inl ⟨e, by rw [← e]; exact h2⟩)
        · exact .inl ⟨h, h2⟩
      · exact .inr (.inr h)
theorem flat_step {α : Type} {f : α → List Wd} {l : List α} {j : Nat} {x : α} (hx : l[j]? = some x) : (l.take (j + 1)).flatMap f = (l.take j).flatMap f ++ f x := by
  obtain ⟨hj, e⟩ := List.getElem?_eq_some_iff.1 hx
  rw [List.take_succ_eq_append_getElem hj, e, List.flatMap_append]; simp
theorem map_step {α : Type} {f : α → Wd} {l : List α} {j : Nat} {x : α} (hx : l[j]? = some x) : (l.take (j + 1)).map f = (l.take j).map f ++ [f x] := by
  obtain ⟨hj, e⟩ := List.getElem?_eq_some_iff.1 hx
  rw [List.take_succ_eq_append_getElem hj, e, List.map_append]; rfl
/-- the names of a tree, each once, in order -/
def namesL (p : Pg) : List Wd := (addAll (nmsP p) []).mergeSort (fun x y => decide (x ≤ y))
theorem mem_namesL {p : Pg} {x : Wd} : x ∈ namesL p ↔ x ∈ nmsP p ∧ x ≠ [] := by
  unfold namesL; rw [(List.mergeSort_perm _ _).mem_iff, mem_addAll]; simp
theorem namesL_nodup {p : Pg} : (namesL p).Nodup := (List.mergeSort_perm _ _).nodup_iff.2 (addAll_nodup List.nodup_nil)
end LexS

