/- A part of the proof: contracts of functions and plain laws; each theorem says its own conditions. -/
import Derived.Test.YtnmhlpnapgojjaaGreatDoorPrettyLaidAl
import Derived.Test.YtnmhlpnapgojjaaGreatDoorPrettyLaidK3
import Derived.Test.YtnmhlpnapgojjaaGreatDoorPrettyLaidK2
import Derived.Test.YtnmhlpnapgojjaaGreatDoorPrettyLaidK4
import Derived.Test.YtnmhlpnapgojjaaGreatDoorPrettyLaidK5
set_option linter.unusedVariables false
set_option linter.unusedSimpArgs false
namespace Go.Proofs.YtnmhlpnapgojjaaGreatDoor
open Go.RowKit Sx LexS _root_.Go.Proofs.Tryz
section
variable {S:Nat→Prop}
set_option maxHeartbeats 4000000 in
theorem kJ8 (s:Sm) (d:Nat) (hd:d≤64) (oe ob ol:Option Addr) (ce cb cl:Nat) (w:World) (hse:ExRow w S oe s.e) (hsb:SmRow w S ob s.body) (hsl:SmRow w S ol s.els) (hok:OkS s)
    (hrec:∀ (l:List Sm),(l=s.body∨l=s.els)→∀ (oa:Option Addr) (cap:Nat) (w:World),SmRow w S oa l→Ret Tryz.prog 122 [.slice oa l.length cap,.int .i64 ((d+1:Nat):Int)] w fun v w'=>v=.bool (decide (d+1≤64) && zE3 l (d+1))∧Chg [] w w') :
  Ret Tryz.prog 159 [.agg (smL s oe ob ol ce cb cl).toArray,.int .i64 (d:Int)] w fun v w'=>v=.bool (zH9 s d)∧Chg [] w w':=by
 refine zB [_,_] func159 rfl ntmps159 rfl ?_
 have st:=St.init w []
 obtain⟨w0,rfl⟩:∃ w0,w0=w:=⟨_,rfl⟩
 have hku:=hok.k
 unfold u8 at hku
 refine sr ?_
 refine zA3 (zT2 (l:=[_,_,_,_,_,_,_]) st rfl rfl rfl rfl ?_)
 intro b2 w hb2 st
 refine ya ?_
 refine et (vk2 1 2 ?_)
 refine zL2 (w0:=w0) (M:=[]) (fun (_:Unit)=>[(1,.int .i64 (d:Int)),(2,.pointer (some ⟨b2,0,none⟩)),(5,.bool (qF6 s.k))]) (fun _=>[.blk b2 (.cells (smL s oe ob ol ce cb cl).toArray 67 (0,0))]) (fun _ _=>True) ?_ ?_
 ·refine zB4 ?_
  refine vy (zC3 rfl qU67 rfl rfl qZ64 rfl) ?_
  refine yl st 0 qA64 ?_
  refine vy (zK5 rfl rfl) ?_
  refine vmb ?_ ?_
  intro hg11
  try simp only [dn] at hg11
  iterate 3 refine vsk ?_
  refine ypt ?_
  refine ym ?_
  iterate 3 refine vsk ?_
  refine ypt ?_
  rotate_left
  focus
   intro hg11
   try simp only [dn] at hg11
   refine vy (zC3 rfl qU67 rfl rfl qZ64 rfl) ?_
   refine yl st 0 qA64 ?_
   refine vy (zK5 rfl rfl) ?_
   refine ypf ?_
   refine vmb ?_ ?_
   intro hg16
   try simp only [dn] at hg16
   iterate 3 refine vsk ?_
   refine ypt ?_
   rotate_left
   intro hg16
   try simp only [dn] at hg16
   refine vy (zC3 rfl qU67 rfl rfl qZ64 rfl) ?_
   refine yl st 0 qA64 ?_
   refine vy (zK5 rfl rfl) ?_
   refine ypf ?_
  all_goals
   refine ya ?_
   refine zI6 ?_
   refine zB8 () ⟨rfl,rfl,(by(simp only [Sx.put,find,Nat.beq];congr 2;unfold qF6;rw [Bool.eq_iff_iff];simp only [decide_eq_true_eq];(try simp only [Bool.false_eq_true,false_iff,true_iff]);omega)),trivial⟩ st ?_
   ·trivial
 clear st
 rintro ⟨⟩ w - st
 refine zL2 (w0:=w0) (M:=[]) (fun (_:Unit)=>[(1,.int .i64 (d:Int)),(2,.pointer (some ⟨b2,0,none⟩))]) (fun _=>[.blk b2 (.cells (smL s oe ob ol ce cb cl).toArray 67 (0,0))]) (fun _ _=>zR9 (qF6 s.k) s.nm=true) ?_ ?_
 ·refine zC5 ?_
  refine zB4 ?_
  refine ym ?_
  refine vmb ?_ ?_
  ·intro hg22
   try simp only [dn] at hg22
   refine yfz 1 qU67 qZ9 ?_
   refine yl st 0 qA9 ?_
   refine zA3 (zA1 [_] rfl rfl call58 rfl (zM9 _ _) ?_)
   rintro _ _ ⟨rfl,rfl⟩
   refine vy (zG5 rfl) ?_
   refine ypt ?_
   refine vmb ?_ ?_
   ·intro hg28
    try simp only [dn] at hg28
    iterate 7 refine vsk ?_
    refine ypt ?_
    refine et (vk3 1 2 36 ?_)
    refine zC9 rfl ?_
    refine sr ?_
    refine ya ?_
    refine et (vk1 4 (zA8 (zA ?_)))
    refine vr1 st results159 ?_
    refine⟨?_,st.chg⟩
    show Value.bool _=Value.bool _
    congr 1
    symm
    first
     | (rw [Bool.eq_false_iff]
        intro hR
        obtain⟨r1,r2,r3,r4,r5,r6,r7,r8,r9⟩:=rightS_iff.1 hR
        unfold zR9 at r2 r3
        clear st hse hsb hsl hrec hok
        (simp_all;done))
   intro hg28
   try simp only [dn] at hg28
   refine ym ?_
   refine vy (zG5 rfl) ?_
   refine vmb ?_ ?_
   ·intro hg31
    try simp only [dn] at hg31
    refine yfz 1 qU67 qZ9 ?_
    refine yl st 0 qA9 ?_
    refine vy (zY4 rfl rfl) ?_
    refine ypt ?_
    refine ypf ?_
    refine et (vk3 1 2 36 ?_)
    refine vif ?_ ?_
    ·intro hc36
     try simp only [dn] at hc36
     refine sr ?_
     refine ya ?_
     refine et (vk1 4 (zA8 (zA ?_)))
     refine vr1 st results159 ?_
     refine⟨?_,st.chg⟩
     show Value.bool _=Value.bool _
     congr 1
     symm
     first
      | (rw [Bool.eq_false_iff]
         intro hR
         obtain⟨r1,r2,r3,r4,r5,r6,r7,r8,r9⟩:=rightS_iff.1 hR
         unfold zR9 at r2 r3
         clear st hse hsb hsl hrec hok
         (simp_all;done))
    intro hc36
    try simp only [dn] at hc36
    refine zA5 ?_
    refine zB8 () ⟨rfl,rfl,trivial⟩ st ?_
    ·unfold zR9;clear st hrec;simp_all
   intro hg31
   try simp only [dn] at hg31
   iterate 3 refine vsk ?_
   iterate 2 refine ypf ?_
   refine et (vk3 1 2 36 ?_)
   refine zM2 rfl ?_
   refine zA5 ?_
   refine zB8 () ⟨rfl,rfl,trivial⟩ st ?_
   ·unfold zR9;clear st hrec;simp_all
  intro hg22
  try simp only [dn] at hg22
  iterate 4 refine vsk ?_
  refine ypf ?_
  iterate 2 refine ym ?_
  refine vy (zG5 rfl) ?_
  refine vmb ?_ ?_
  ·intro hg31
   try simp only [dn] at hg31
   refine yfz 1 qU67 qZ9 ?_
   refine yl st 0 qA9 ?_
   refine vy (zY4 rfl rfl) ?_
   refine ypt ?_
   refine ypf ?_
   refine et (vk3 1 2 36 ?_)
   refine vif ?_ ?_
   ·intro hc36
    try simp only [dn] at hc36
    refine sr ?_
    refine ya ?_
    refine et (vk1 4 (zA8 (zA ?_)))
    refine vr1 st results159 ?_
    refine⟨?_,st.chg⟩
    show Value.bool _=Value.bool _
    congr 1
    symm
    first
     | (rw [Bool.eq_false_iff]
        intro hR
        obtain⟨r1,r2,r3,r4,r5,r6,r7,r8,r9⟩:=rightS_iff.1 hR
        unfold zR9 at r2 r3
        clear st hse hsb hsl hrec hok
        (simp_all;done))
   intro hc36
   try simp only [dn] at hc36
   refine zA5 ?_
   refine zB8 () ⟨rfl,rfl,trivial⟩ st ?_
   ·unfold zR9;clear st hrec;simp_all
  intro hg31
  try simp only [dn] at hg31
  iterate 3 refine vsk ?_
  iterate 2 refine ypf ?_
  refine et (vk3 1 2 36 ?_)
  refine zM2 rfl ?_
  refine zA5 ?_
  refine zB8 () ⟨rfl,rfl,trivial⟩ st ?_
  ·unfold zR9;clear st hrec;simp_all
 clear st
 rintro ⟨⟩ w hA2 st
 refine zL2 (w0:=w0) (M:=[]) (fun (_:Unit)=>[(1,.int .i64 (d:Int)),(2,.pointer (some ⟨b2,0,none⟩))]) (fun _=>[.blk b2 (.cells (smL s oe ob ol ce cb cl).toArray 67 (0,0))]) (fun _ _=>zR9 (decide (s.k=2)) s.other=true) ?_ ?_
 ·refine zC5 ?_
  refine zB4 ?_
  refine vy (zC3 rfl qU67 rfl rfl qZ64 rfl) ?_
  refine yl st 0 qA64 ?_
  refine vy (zK5 rfl rfl) ?_
  refine vmb ?_ ?_
  ·intro hg40
   try simp only [dn] at hg40
   refine yfz 2 qU67 qZ9 ?_
   refine yl st 0 qA9 ?_
   refine zA3 (zA1 [_] rfl rfl call58 rfl (zM9 _ _) ?_)
   rintro _ _ ⟨rfl,rfl⟩
   refine vy (zG5 rfl) ?_
   refine ypt ?_
   refine vmb ?_ ?_
   ·intro hg46
    try simp only [dn] at hg46
    iterate 8 refine vsk ?_
    refine ypt ?_
    refine et (vk3 1 2 55 ?_)
    refine zC9 rfl ?_
    refine sr ?_
    refine ya ?_
    refine et (vk1 4 (zA8 (zA ?_)))
    refine vr1 st results159 ?_
    refine⟨?_,st.chg⟩
    show Value.bool _=Value.bool _
    congr 1
    symm
    first
     | (rw [Bool.eq_false_iff]
        intro hR
        obtain⟨r1,r2,r3,r4,r5,r6,r7,r8,r9⟩:=rightS_iff.1 hR
        unfold zR9 at r2 r3
        clear st hse hsb hsl hrec hok
        (simp_all;done))
   intro hg46
   try simp only [dn] at hg46
   refine vy (zC3 rfl qU67 rfl rfl qZ64 rfl) ?_
   refine yl st 0 qA64 ?_
   refine vy (zR rfl rfl) ?_
   refine vmb ?_ ?_
   ·intro hg50
    try simp only [dn] at hg50
    refine yfz 2 qU67 qZ9 ?_
    refine yl st 0 qA9 ?_
    refine vy (zY4 rfl rfl) ?_
    refine ypt ?_
    refine ypf ?_
    refine et (vk3 1 2 55 ?_)
    refine vif ?_ ?_
    ·intro hc55
     try simp only [dn] at hc55
     refine sr ?_
     refine ya ?_
     refine et (vk1 4 (zA8 (zA ?_)))
     refine vr1 st results159 ?_
     refine⟨?_,st.chg⟩
     show Value.bool _=Value.bool _
     congr 1
     symm
     first
      | (rw [Bool.eq_false_iff]
         intro hR
         obtain⟨r1,r2,r3,r4,r5,r6,r7,r8,r9⟩:=rightS_iff.1 hR
         unfold zR9 at r2 r3
         clear st hse hsb hsl hrec hok
         omega)
    intro hc55
    try simp only [dn] at hc55
    refine zA5 ?_
    refine zB8 () ⟨rfl,rfl,trivial⟩ st ?_
    ·unfold zR9;clear st hrec;simp_all
   intro hg50
   try simp only [dn] at hg50
   iterate 3 refine vsk ?_
   iterate 2 refine ypf ?_
   refine et (vk3 1 2 55 ?_)
   refine zM2 rfl ?_
   refine zA5 ?_
   refine zB8 () ⟨rfl,rfl,trivial⟩ st ?_
   ·unfold zR9;clear st hrec;simp_all
  intro hg40
  try simp only [dn] at hg40
  iterate 4 refine vsk ?_
  refine ypf ?_
  refine ym ?_
  refine vy (zC3 rfl qU67 rfl rfl qZ64 rfl) ?_
  refine yl st 0 qA64 ?_
  refine vy (zR rfl rfl) ?_
  refine vmb ?_ ?_
  ·intro hg50
   try simp only [dn] at hg50
   refine yfz 2 qU67 qZ9 ?_
   refine yl st 0 qA9 ?_
   refine vy (zY4 rfl rfl) ?_
   refine ypt ?_
   refine ypf ?_
   refine et (vk3 1 2 55 ?_)
   refine vif ?_ ?_
   ·intro hc55
    try simp only [dn] at hc55
    refine sr ?_
    refine ya ?_
    refine et (vk1 4 (zA8 (zA ?_)))
    refine vr1 st results159 ?_
    refine⟨?_,st.chg⟩
    show Value.bool _=Value.bool _
    congr 1
    symm
    first
     | (rw [Bool.eq_false_iff]
        intro hR
        obtain⟨r1,r2,r3,r4,r5,r6,r7,r8,r9⟩:=rightS_iff.1 hR
        unfold zR9 at r2 r3
        clear st hse hsb hsl hrec hok
        (simp_all;done))
   intro hc55
   try simp only [dn] at hc55
   refine zA5 ?_
   refine zB8 () ⟨rfl,rfl,trivial⟩ st ?_
   ·unfold zR9;clear st hrec;simp_all
  intro hg50
  try simp only [dn] at hg50
  iterate 3 refine vsk ?_
  iterate 2 refine ypf ?_
  refine et (vk3 1 2 55 ?_)
  refine zM2 rfl ?_
  refine zA5 ?_
  refine zB8 () ⟨rfl,rfl,trivial⟩ st ?_
  ·unfold zR9;clear st hrec;simp_all
 clear st
 rintro ⟨⟩ w hA3 st
 refine sr ?_
 refine ya ?_
 refine et (vk3 1 2 6 ?_)
 refine zL2 (w0:=w0) (M:=[]) (fun (_:Unit)=>[(1,.int .i64 (d:Int)),(2,.pointer (some ⟨b2,0,none⟩)),(6,.int .i64 (if s.k=5∨s.k=7 then 0 else 1))]) (fun _=>[.blk b2 (.cells (smL s oe ob ol ce cb cl).toArray 67 (0,0))]) (fun _ _=>True) ?_ ?_
 ·refine zC5 ?_
  refine zB4 ?_
  refine vy (zC3 rfl qU67 rfl rfl qZ64 rfl) ?_
  refine yl st 0 qA64 ?_
  refine vy (zK5 rfl rfl) ?_
  refine vmb ?_ ?_
  intro hg59
  try simp only [dn] at hg59
  iterate 3 refine vsk ?_
  refine ypt ?_
  refine et (vk4 1 2 6 63 ?_)
  refine zC9 rfl ?_
  refine zB4 ?_
  refine ya ?_
  refine zI6 ?_
  rotate_left
  focus
   intro hg59
   try simp only [dn] at hg59
   refine vy (zC3 rfl qU67 rfl rfl qZ64 rfl) ?_
   refine yl st 0 qA64 ?_
   refine vy (zK5 rfl rfl) ?_
   refine ypf ?_
   refine et (vk4 1 2 6 63 ?_)
   refine vif ?_ ?_
   intro hc63
   try simp only [dn] at hc63
   refine zB4 ?_
   refine ya ?_
   refine zI6 ?_
   rotate_left
   intro hc63
   try simp only [dn] at hc63
   refine zA5 ?_
  all_goals
   refine zB8 () ⟨rfl,rfl,by simp only [Sx.put,find,Nat.beq];first|rw [if_pos (by omega)]|rw [if_neg (by omega)],trivial⟩ st ?_
   ·trivial
 clear st
 rintro ⟨⟩ w - st
 refine zL2 (w0:=w0) (M:=[]) (fun (_:Unit)=>[(1,.int .i64 (d:Int)),(2,.pointer (some ⟨b2,0,none⟩))]) (fun _=>[.blk b2 (.cells (smL s oe ob ol ce cb cl).toArray 67 (0,0))]) (fun _ _=>(1≤s.k∧s.k≤7)∧zH5 (zW9 s.k) s.e=true) ?_ ?_
 ·refine zC5 ?_
  refine zB4 ?_
  refine vy (zC3 rfl qU67 rfl rfl qZ64 rfl) ?_
  refine yl st 0 qA64 ?_
  refine vy (zT9 rfl rfl) ?_
  refine vmb ?_ ?_
  ·intro hg67
   try simp only [dn] at hg67
   iterate 3 refine vsk ?_
   refine ypt ?_
   refine ym ?_
   iterate 5 refine vsk ?_
   refine ypt ?_
   refine ym ?_
   iterate 10 refine vsk ?_
   refine ypt ?_
   refine et (vk3 1 2 90 ?_)
   refine zC9 rfl ?_
   refine sr ?_
   refine ya ?_
   refine et (vk1 4 (zA8 (zA ?_)))
   refine vr1 st results159 ?_
   refine⟨?_,st.chg⟩
   show Value.bool _=Value.bool _
   congr 1
   symm
   first
    | (rw [Bool.eq_false_iff]
       intro hR
       obtain⟨r1,r2,r3,r4,r5,r6,r7,r8,r9⟩:=rightS_iff.1 hR
       unfold zR9 at r2 r3
       clear st hse hsb hsl hrec hok
       omega)
  intro hg67
  try simp only [dn] at hg67
  refine vy (zC3 rfl qU67 rfl rfl qZ64 rfl) ?_
  refine yl st 0 qA64 ?_
  refine vy (zT3 rfl rfl) ?_
  refine ypf ?_
  refine vmb ?_ ?_
  ·intro hg72
   try simp only [dn] at hg72
   iterate 5 refine vsk ?_
   refine ypt ?_
   refine ym ?_
   iterate 10 refine vsk ?_
   refine ypt ?_
   refine et (vk3 1 2 90 ?_)
   refine zC9 rfl ?_
   refine sr ?_
   refine ya ?_
   refine et (vk1 4 (zA8 (zA ?_)))
   refine vr1 st results159 ?_
   refine⟨?_,st.chg⟩
   show Value.bool _=Value.bool _
   congr 1
   symm
   first
    | (rw [Bool.eq_false_iff]
       intro hR
       obtain⟨r1,r2,r3,r4,r5,r6,r7,r8,r9⟩:=rightS_iff.1 hR
       unfold zR9 at r2 r3
       clear st hse hsb hsl hrec hok
       omega)
  intro hg72
  try simp only [dn] at hg72
  refine yfz 3 qU67 qZ40 ?_
  refine yl st 0 qA40 ?_
  refine vy (zB1 rfl qU40) ?_
  refine ym ?_
  refine vy (zR rfl rfl) ?_
  refine ypf ?_
  refine vmb ?_ ?_
  ·intro hg79
   try simp only [dn] at hg79
   iterate 10 refine vsk ?_
   refine ypt ?_
   refine et (vk3 1 2 90 ?_)
   refine zC9 rfl ?_
   refine sr ?_
   refine ya ?_
   refine et (vk1 4 (zA8 (zA ?_)))
   refine vr1 st results159 ?_
   refine⟨?_,st.chg⟩
   show Value.bool _=Value.bool _
   congr 1
   symm
   first
    | (rw [Bool.eq_false_iff]
       intro hR
       obtain⟨r1,r2,r3,r4,r5,r6,r7,r8,r9⟩:=rightS_iff.1 hR
       unfold zR9 at r2 r3
       clear st hse hsb hsl hrec hok
       first
         | (have hq := ‹¬ ((s.e.length : Int) = if s.k = 5 ∨ s.k = 7 then 0 else 1)›
            by_cases h57:s.k=5∨s.k=7
            · rw [if_pos h57] at hq
              have hE:zW9 s.k=false:=by unfold zW9;simp only [decide_eq_false_iff_not];omega
              rw [hE,qT6,decide_eq_true_eq] at r4;omega
            · rw [if_neg h57] at hq
              have hE:zW9 s.k=true:=by unfold zW9;simp only [decide_eq_true_eq];omega
              rw [hE,gH1 (by omega)] at r4;cases r4))
  intro hg79
  try simp only [dn] at hg79
  refine ym ?_
  refine vy (zK5 rfl rfl) ?_
  refine vmb ?_ ?_
  ·intro hg82
   try simp only [dn] at hg82
   have hq:¬ (s.k=5∨s.k=7):=by intro h;rw [if_pos h] at hg82;omega
   rw [if_neg hq] at hg79
   have hlen:s.e.length=1:=by omega
   have hE:zW9 s.k=true:=by unfold zW9;simp only [decide_eq_true_eq];omega
   obtain⟨x,hx⟩:=kR9 (l:=s.e) (n:=s.e.length) rfl (by omega)
   obtain⟨eb,eo,rfl,heS,hel,heg⟩:=ExRow.at hse (by omega)
   obtain⟨o0,c0,hV0,hr0,hc0⟩:=heg 0 x hx
   refine yfz 3 qU67 qZ40 ?_
   refine yl st 0 qA40 ?_
   refine vy (zM3 (k:=0) rfl rfl qU40 qZ42 rfl (by omega)) ?_
   refine vy (zE6 (exL x o0 c0) rfl qA42 qZ42 rfl (fun i v hi=>st.chg.cell (hc0 i v hi) (by simp))) ?_
   refine zA3 (zA1 [_,_] rfl rfl call208 rfl (qB _ x rfl 0 _ _ (hV0.kept st.sm) (hok.e.2 0 x hx) (by omega)) ?_)
   rintro _ w ⟨rfl,cw⟩
   replace st:=st.call0 cw
   refine vy (zG5 rfl) ?_
   refine ypt ?_
   refine ypf ?_
   refine et (vk3 1 2 90 ?_)
   refine vif ?_ ?_
   ·intro hc90
    try simp only [dn] at hc90
    refine sr ?_
    refine ya ?_
    refine et (vk1 4 (zA8 (zA ?_)))
    refine vr1 st results159 ?_
    refine⟨?_,st.chg⟩
    show Value.bool _=Value.bool _
    congr 1
    symm
    first
     | (rw [Bool.eq_false_iff]
        intro hR
        obtain⟨r1,r2,r3,r4,r5,r6,r7,r8,r9⟩:=rightS_iff.1 hR
        unfold zR9 at r2 r3
        clear st hse hsb hsl hrec hok
        (rw [hE,qM6 hlen hx] at r4;simp_all;done))
   intro hc90
   try simp only [dn] at hc90
   refine zA5 ?_
   refine zB8 () ⟨rfl,rfl,trivial⟩ st ?_
   ·refine⟨⟨by omega,by omega⟩,?_⟩
    (rw [hE,qM6 hlen hx];assumption)
  intro hg82
  try simp only [dn] at hg82
  have hq:s.k=5∨s.k=7:=by
   by_cases h:s.k=5∨s.k=7
   ·exact h
   ·rw [if_neg h] at hg82;omega
  rw [if_pos hq] at hg79
  have hE:zW9 s.k=false:=by unfold zW9;simp only [decide_eq_false_iff_not];omega
  iterate 6 refine vsk ?_
  iterate 2 refine ypf ?_
  refine et (vk3 1 2 90 ?_)
  refine zM2 rfl ?_
  refine zA5 ?_
  refine zB8 () ⟨rfl,rfl,trivial⟩ st ?_
  ·refine⟨⟨by omega,by omega⟩,?_⟩
   (rw [hE,qT6,decide_eq_true_eq];omega)
 clear st
 rintro ⟨⟩ w ⟨hA1,hA4⟩ st
 refine zL2 (w0:=w0) (M:=[]) (fun (_:Unit)=>[(1,.int .i64 (d:Int)),(2,.pointer (some ⟨b2,0,none⟩)),(7,.bool (qA1 s.k))]) (fun _=>[.blk b2 (.cells (smL s oe ob ol ce cb cl).toArray 67 (0,0))]) (fun _ _=>True) ?_ ?_
 ·refine zB4 ?_
  refine vy (zC3 rfl qU67 rfl rfl qZ64 rfl) ?_
  refine yl st 0 qA64 ?_
  refine vy (zK5 rfl rfl) ?_
  refine vmb ?_ ?_
  intro hg94
  try simp only [dn] at hg94
  iterate 3 refine vsk ?_
  refine ypt ?_
  refine ym ?_
  iterate 3 refine vsk ?_
  refine ypt ?_
  rotate_left
  focus
   intro hg94
   try simp only [dn] at hg94
   refine vy (zC3 rfl qU67 rfl rfl qZ64 rfl) ?_
   refine yl st 0 qA64 ?_
   refine vy (zK5 rfl rfl) ?_
   refine ypf ?_
   refine vmb ?_ ?_
   intro hg99
   try simp only [dn] at hg99
   iterate 3 refine vsk ?_
   refine ypt ?_
   rotate_left
   intro hg99
   try simp only [dn] at hg99
   refine vy (zC3 rfl qU67 rfl rfl qZ64 rfl) ?_
   refine yl st 0 qA64 ?_
   refine vy (zK5 rfl rfl) ?_
   refine ypf ?_
  all_goals
   refine ya ?_
   refine zI6 ?_
   refine zB8 () ⟨rfl,rfl,(by(simp only [Sx.put,find,Nat.beq];congr 2;unfold qA1;rw [Bool.eq_iff_iff];simp only [decide_eq_true_eq];(try simp only [Bool.false_eq_true,false_iff,true_iff]);omega)),trivial⟩ st ?_
   ·trivial
 clear st
 rintro ⟨⟩ w - st
 refine zL2 (w0:=w0) (M:=[]) (fun (_:Unit)=>[(1,.int .i64 (d:Int)),(2,.pointer (some ⟨b2,0,none⟩)),(7,.bool (qA1 s.k))]) (fun _=>[.blk b2 (.cells (smL s oe ob ol ce cb cl).toArray 67 (0,0))]) (fun _ _=>(qA1 s.k=true∨s.body.length=0)∧(s.k=3∨s.els.length=0)) ?_ ?_
 ·refine zC5 ?_
  refine zB4 ?_
  refine ym ?_
  refine vy (zG5 rfl) ?_
  refine vmb ?_ ?_
  ·intro hg106
   try simp only [dn] at hg106
   refine yfz 4 qU67 qZ65 ?_
   refine yl st 0 qA65 ?_
   refine vy (zB1 rfl qU65) ?_
   refine vy (zT4 rfl rfl) ?_
   refine ypt ?_
   refine vmb ?_ ?_
   ·intro hg112
    try simp only [dn] at hg112
    iterate 9 refine vsk ?_
    refine ypt ?_
    refine et (vk4 1 2 7 122 ?_)
    refine zC9 rfl ?_
    refine sr ?_
    refine ya ?_
    refine et (vk1 4 (zA8 (zA ?_)))
    refine vr1 st results159 ?_
    refine⟨?_,st.chg⟩
    show Value.bool _=Value.bool _
    congr 1
    symm
    first
     | (rw [Bool.eq_false_iff]
        intro hR
        obtain⟨r1,r2,r3,r4,r5,r6,r7,r8,r9⟩:=rightS_iff.1 hR
        unfold zR9 at r2 r3
        clear st hse hsb hsl hrec hok
        (simp_all;done))
   intro hg112
   try simp only [dn] at hg112
   refine vy (zC3 rfl qU67 rfl rfl qZ64 rfl) ?_
   refine yl st 0 qA64 ?_
   refine vy (zR rfl rfl) ?_
   refine vmb ?_ ?_
   ·intro hg116
    try simp only [dn] at hg116
    refine yfz 5 qU67 qZ65 ?_
    refine yl st 0 qA65 ?_
    refine vy (zB1 rfl qU65) ?_
    refine vy (zT4 rfl rfl) ?_
    refine ypt ?_
    refine ypf ?_
    refine et (vk4 1 2 7 122 ?_)
    refine vif ?_ ?_
    ·intro hc122
     try simp only [dn] at hc122
     refine sr ?_
     refine ya ?_
     refine et (vk1 4 (zA8 (zA ?_)))
     refine vr1 st results159 ?_
     refine⟨?_,st.chg⟩
     show Value.bool _=Value.bool _
     congr 1
     symm
     first
      | (rw [Bool.eq_false_iff]
         intro hR
         obtain⟨r1,r2,r3,r4,r5,r6,r7,r8,r9⟩:=rightS_iff.1 hR
         unfold zR9 at r2 r3
         clear st hse hsb hsl hrec hok
         omega)
    intro hc122
    try simp only [dn] at hc122
    refine zA5 ?_
    refine zB8 () ⟨rfl,rfl,rfl,trivial⟩ st ?_
    ·refine⟨?_,?_⟩ <;> (right;omega)
   intro hg116
   try simp only [dn] at hg116
   iterate 4 refine vsk ?_
   iterate 2 refine ypf ?_
   refine et (vk4 1 2 7 122 ?_)
   refine zM2 rfl ?_
   refine zA5 ?_
   refine zB8 () ⟨rfl,rfl,rfl,trivial⟩ st ?_
   ·refine⟨?_,?_⟩ <;> first|(left;assumption)|(right;omega)
  intro hg106
  try simp only [dn] at hg106
  iterate 4 refine vsk ?_
  refine ypf ?_
  refine ym ?_
  refine vy (zC3 rfl qU67 rfl rfl qZ64 rfl) ?_
  refine yl st 0 qA64 ?_
  refine vy (zR rfl rfl) ?_
  refine vmb ?_ ?_
  ·intro hg116
   try simp only [dn] at hg116
   refine yfz 5 qU67 qZ65 ?_
   refine yl st 0 qA65 ?_
   refine vy (zB1 rfl qU65) ?_
   refine vy (zT4 rfl rfl) ?_
   refine ypt ?_
   refine ypf ?_
   refine et (vk4 1 2 7 122 ?_)
   refine vif ?_ ?_
   ·intro hc122
    try simp only [dn] at hc122
    refine sr ?_
    refine ya ?_
    refine et (vk1 4 (zA8 (zA ?_)))
    refine vr1 st results159 ?_
    refine⟨?_,st.chg⟩
    show Value.bool _=Value.bool _
    congr 1
    symm
    first
     | (rw [Bool.eq_false_iff]
        intro hR
        obtain⟨r1,r2,r3,r4,r5,r6,r7,r8,r9⟩:=rightS_iff.1 hR
        unfold zR9 at r2 r3
        clear st hse hsb hsl hrec hok
        omega)
   intro hc122
   try simp only [dn] at hc122
   refine zA5 ?_
   refine zB8 () ⟨rfl,rfl,rfl,trivial⟩ st ?_
   ·refine⟨?_,?_⟩ <;> first|(left;assumption)|(right;omega)
  intro hg116
  try simp only [dn] at hg116
  iterate 4 refine vsk ?_
  iterate 2 refine ypf ?_
  refine et (vk4 1 2 7 122 ?_)
  refine zM2 rfl ?_
  refine zA5 ?_
  refine zB8 () ⟨rfl,rfl,rfl,trivial⟩ st ?_
  ·refine⟨?_,?_⟩ <;> (left;assumption)
 clear st
 rintro ⟨⟩ w ⟨hA5,hA6⟩ st
 refine zL2 (w0:=w0) (M:=[]) (fun (_:Unit)=>[(1,.int .i64 (d:Int)),(2,.pointer (some ⟨b2,0,none⟩))]) (fun _=>[.blk b2 (.cells (smL s oe ob ol ce cb cl).toArray 67 (0,0))]) (fun _ _=>(qA1 s.k=false∨d<64)∧zE3 s.body (d+1)=true) ?_ ?_
 ·refine zC5 ?_
  refine zB4 ?_
  refine ym ?_
  refine vmb ?_ ?_
  ·intro hg124
   try simp only [dn] at hg124
   refine yfz 4 qU67 qZ65 ?_
   refine yl st 0 qA65 ?_
   refine ym ?_
   refine vy (zK2 rfl rfl (by omega:_=((d+1:Nat):Int)) (by omega) (by omega)) ?_
   refine zA3 (zA1 [_,_] rfl rfl call122 rfl (hrec _ (.inl rfl) _ _ _ (hsb.kept st.sm)) ?_)
   rintro _ w ⟨rfl,cw⟩
   replace st:=st.call0 cw
   refine vy (zG5 rfl) ?_
   refine ypt ?_
   refine et (vk3 1 2 131 ?_)
   refine vif ?_ ?_
   ·intro hc131
    try simp only [dn] at hc131
    refine sr ?_
    refine ya ?_
    refine et (vk1 4 (zA8 (zA ?_)))
    refine vr1 st results159 ?_
    refine⟨?_,st.chg⟩
    show Value.bool _=Value.bool _
    congr 1
    symm
    first
     | (rw [Bool.eq_false_iff]
        intro hR
        obtain⟨r1,r2,r3,r4,r5,r6,r7,r8,r9⟩:=rightS_iff.1 hR
        unfold zR9 at r2 r3
        clear st hse hsb hsl hrec hok
        (simp_all;omega))
   intro hc131
   try simp only [dn] at hc131
   refine zA5 ?_
   refine zB8 () ⟨rfl,rfl,trivial⟩ st ?_
   ·(clear st hrec;simp_all;omega)
  intro hg124
  try simp only [dn] at hg124
  iterate 6 refine vsk ?_
  refine ypf ?_
  refine et (vk3 1 2 131 ?_)
  refine zM2 rfl ?_
  refine zA5 ?_
  refine zB8 () ⟨rfl,rfl,trivial⟩ st ?_
  ·exact⟨.inl (by assumption),by rw [List.eq_nil_of_length_eq_zero (hA5.resolve_left (by rw [‹qA1 s.k=false›];simp))];rfl⟩
 clear st
 rintro ⟨⟩ w ⟨hA7,hA8⟩ st
 refine sr ?_
 refine yfz 5 qU67 qZ65 ?_
 refine yl st 0 qA65 ?_
 refine vy (zB1 rfl qU65) ?_
 refine vy (zK5 rfl rfl) ?_
 refine vmb ?_ ?_
 intro hg136
 try simp only [dn] at hg136
 iterate 5 refine vsk ?_
 refine ypt ?_
 rotate_left
 intro hg136
 try simp only [dn] at hg136
 refine yfz 5 qU67 qZ65 ?_
 refine yl st 0 qA65 ?_
 refine ym ?_
 refine vy (zK2 rfl rfl (by omega:_=((d+1:Nat):Int)) (by omega) (by omega)) ?_
 refine zA3 (zA1 [_,_] rfl rfl call122 rfl (hrec _ (.inr rfl) _ _ _ (hsl.kept st.sm)) ?_)
 rintro _ w ⟨rfl,cw⟩
 replace st:=st.call0 cw
 refine ypf ?_
 all_goals
  refine ya ?_
  refine et (vk1 4 (zA8 ?_))
  refine vr1 st results159 ?_
  refine⟨?_,st.chg⟩
  show Value.bool _=Value.bool _
  congr 1
  symm
  first
   | (rw [rightS_iff]
      exact⟨hA1,hA2,hA3,hA4,hA5,hA6,hA7.imp (fun h=>⟨h,by omega⟩) id,hA8,by rw [List.eq_nil_of_length_eq_zero (l:=s.els) (by omega)];rfl⟩)
   | (rw [Bool.eq_iff_iff, rightS_iff]
      constructor
      · rintro ⟨r1,r2,r3,r4,r5,r6,r7,r8,r9⟩
        rw [r9]
        rcases r7 with h|h
        · omega
        · simp;omega
      · intro h
        simp only [Bool.and_eq_true,decide_eq_true_eq] at h
        exact⟨hA1,hA2,hA3,hA4,hA5,hA6,.inr (by omega),hA8,h.2⟩)
set_option maxHeartbeats 1000000 in
theorem kB2:∀ (n:Nat) (ss:List Sm),szo ss=n→∀ (d:Nat),d≤1000→∀ (oa:Option Addr) (cap:Nat) (w:World),SmRow w S oa ss→qO ss→Ret Tryz.prog 122 [.slice oa ss.length cap,.int .i64 (d:Int)] w fun v w'=>v=.bool (decide (d≤64) && zE3 ss d)∧Chg [] w w':=by
 intro n;refine Nat.strongRecOn n fun n ih=>?_
 intro ss hn d hd oa cap w hr hok;subst hn;have hssl:=hok.1;refine zB [_,_] func122 rfl ntmps122 rfl ?_;have st:=St.init w [];obtain⟨w0,rfl⟩:∃ w0,w0=w:=⟨_,rfl⟩
 refine a12 ?_;refine vif ?_ ?_;intro hc7;(try simp only [dn] at hc7);refine a7 ?_;refine vr1 st results122 ?_;refine⟨?_,st.chg⟩;rw [decide_eq_false (by omega)];rfl;intro hc7;(try simp only [dn] at hc7);refine a9 ?_;refine zC (w0:=w0) (M:=[]) (fun (j:Nat)=>[(0,.slice oa ss.length cap),(1,.int .i64 (d:Int)),(5,.int .i64 (j:Int))]) (fun _=>[]) (fun j _=>j≤ss.length∧(ss.take j).all (zH9 · d)=true) (fun j=>ss.length - j) 0 ⟨rfl,rfl,rfl,trivial⟩ st ⟨by omega,by simp⟩ ?_;rintro j w ⟨hj,hall⟩ st;refine a5 ?_;refine vy (zB1 rfl qU65) ?_;refine a3 ?_;refine vif ?_ ?_;intro hc11;(try simp only [dn] at hc11);obtain⟨s,hsj⟩:∃ s,ss[j]?=some s:=⟨_,List.getElem?_eq_getElem (by omega)⟩
 obtain⟨gb,go,rfl,hgS,hgl,hg⟩:=SmRow.at hr (by omega);obtain⟨oe,ob,ol,ce,cb,cl,hsV,hse,hsb,hsl,hc⟩:=hg j s hsj;have hks:=hok.2 j s hsj;have hz:=zF2 hsj;refine a8 ?_;refine vy (zM3 (k:=j) rfl rfl qU65 qZ67 rfl (by omega)) ?_;refine vy (zE6 (smL s oe ob ol ce cb cl) rfl qA67 qZ67 rfl (fun i v hi=>st.chg.cell (hc i v hi) (by simp))) ?_;refine a1 ?_;refine zA3 (zA1 [_,_] rfl rfl call159 rfl (kJ8 s d (by omega) oe ob ol ce cb cl _ (hse.kept st.sm) (hsb.kept st.sm) (hsl.kept st.sm) hks (fun l hl oa cap w hr=>ih (szo l) (by have:=qL s;rcases hl with h|h <;> subst h <;> omega) l rfl (d+1) (by omega) oa cap w hr (by rcases hl with h|h <;> subst h;exact hks.body;exact hks.els))) ?_);rintro _ w ⟨rfl,cw⟩;replace st:=st.call0 cw;refine a3 ?_;refine vif ?_ ?_;intro hc20;(try simp only [dn] at hc20);refine a11 ?_;refine vr1 st results122 ?_;refine⟨?_,st.chg⟩;rw [decide_eq_true (by omega),Bool.true_and];rw [qR2 (by assumption) hsj];intro hc20;(try simp only [dn] at hc20);refine a5 ?_;refine vy (yin ((j+1:Nat):Int)) ?_;refine a2 ?_;refine zA7 (j+1)  ⟨rfl,rfl,rfl,trivial⟩ (st.dr) ?_ ?_;exact⟨by omega,zO0 hall hsj (by assumption)⟩;omega;intro hc11;(try simp only [dn] at hc11);refine a11 ?_;refine vr1 st results122 ?_;refine⟨?_,st.chg⟩;rw [decide_eq_true (by omega),Bool.true_and];rw [qO9,qK4 hall (by omega)]
end
section
variable {S:Nat→Prop}
abbrev pgL (p:Pg) (os ol ot:Option Addr) (cs cl ct:Nat):List Value:=[.slice os p.shared.length cs,.slice ol p.locks.length cl,.slice ot p.threads.length ct]
set_option maxHeartbeats 1000000 in
theorem kO8 (p:Pg) (os ol ot:Option Addr) (cs cl ct:Nat) (w:World) (hS:DcRow w S os p.shared) (hL:DcRow w S ol p.locks) (hT:ThRow w S ot p.threads) (hok:OkP p) (hsg:Sig w):Ret Tryz.prog 38 [.agg (pgL p os ol ot cs cl ct).toArray] w fun v w'=>v=.bool (qD4 p)∧Chg [] w w':=by
 refine zB [_] func38 rfl ntmps38 rfl ?_
 have st:=St.init w []
 obtain⟨w0,rfl⟩:∃ w0,w0=w:=⟨_,rfl⟩
 have hn1:=hok.1.1
 have hn2:=hok.2.1.1
 have hn3:=hok.2.2.1
 refine sr ?_
 refine zA3 (zT2 (l:=[_,_,_]) st rfl rfl rfl rfl ?_)
 intro b1 w hb1 st
 refine ya ?_
 refine et (vk1 1 (zC5 (sr ?_)))
 refine vy (zC3 rfl qU26 rfl rfl qZ23 rfl) ?_
 refine yl st 0 qA23 ?_
 refine zA3 (zA1 [_,_] rfl rfl call92 rfl (qY4 p.shared _ _ true _ (RowC.kept hS st.sm) (by unfold maxLen;omega)) ?_)
 rintro _ w ⟨rfl,cw⟩
 replace st:=st.call0 cw
 refine vy (zG5 rfl) ?_
 refine vmb ?_ ?_
 ·intro hg9
  try simp only [dn] at hg9
  iterate 4 refine vsk ?_
  refine ypt ?_
  refine et (vk2 1 14 ?_)
  refine zC9 rfl ?_
  refine sr ?_
  refine ya ?_
  refine et (vk1 2 (zA8 (zA ?_)))
  refine vr1 st results38 ?_
  refine⟨?_,st.chg⟩
  show Value.bool _=Value.bool _
  congr 1
  symm
  unfold qD4
  clear st
  try simp only [show decide (1≤64)=true from rfl,Bool.true_and] at *
  (rw [‹p.shared.all (zQ1 true)=false›];simp;done)
 intro hg9
 try simp only [dn] at hg9
 refine yfz 1 qU26 qZ23 ?_
 refine yl st 0 qA23 ?_
 refine zA3 (zA1 [_,_] rfl rfl call92 rfl (qY4 p.locks _ _ false _ (RowC.kept hL st.sm) (by unfold maxLen;omega)) ?_)
 rintro _ w ⟨rfl,cw⟩
 replace st:=st.call0 cw
 refine vy (zG5 rfl) ?_
 refine ypf ?_
 refine et (vk2 1 14 ?_)
 refine vif ?_ ?_
 ·intro hc14
  try simp only [dn] at hc14
  refine sr ?_
  refine ya ?_
  refine et (vk1 2 (zA8 (zA ?_)))
  refine vr1 st results38 ?_
  refine⟨?_,st.chg⟩
  show Value.bool _=Value.bool _
  congr 1
  symm
  unfold qD4
  clear st
  try simp only [show decide (1≤64)=true from rfl,Bool.true_and] at *
  (rw [‹p.locks.all (zQ1 false)=false›];simp;done)
 intro hc14
 try simp only [dn] at hc14
 refine kt (vk1 1 (zC5 (sr ?_)))
 refine yfz 2 qU26 qZ24 ?_
 refine yl st 0 qA24 ?_
 refine vy (zB1 rfl qU24) ?_
 refine ym ?_
 refine et (vk3 16 17 18 (zD6 ?_))
 refine zC (w0:=w0) (M:=[]) (fun (j:Nat)=>[(16,.slice ot p.threads.length ct),(17,.int .i64 (p.threads.length:Int)),(18,.int .i64 (j:Int))]) (fun _=>[]) (fun j _=>j≤p.threads.length∧(p.threads.take j).all qL2=true) (fun j=>p.threads.length - j) 0 ⟨rfl,rfl,rfl,trivial⟩ (st.dr) ⟨by omega,by simp⟩ ?_
 clear st
 rintro j w ⟨hj,hall⟩ st
 refine sr ?_
 refine vy (zM5 rfl rfl) ?_
 refine et (vk4 16 17 18 19 (zC5 ?_))
 refine vif ?_ ?_
 ·intro hc19
  try simp only [dn] at hc19
  obtain⟨t,htj⟩:∃ t,p.threads[j]?=some t:=⟨_,List.getElem?_eq_getElem (by omega)⟩
  obtain⟨gb,go,rfl,hgS,hgl,hg⟩:=ThRow.at hT (by omega)
  obtain⟨tl,tb,cll,cbb,htl,htb,hc⟩:=hg j t htj
  have hkt:=hok.2.2.2 j t htj
  refine kt (vk3 16 17 18 (zC5 (zD6 (sr ?_))))
  refine vy (zM3 (k:=j) rfl rfl qU24 qZ69 rfl (by omega)) ?_
  refine vy (zE6 (thL t tl tb cll cbb) rfl qA69 qZ69 rfl (fun i v hi=>st.chg.cell (hc i v hi) (by simp))) ?_
  refine zA3 (zF8 (l:=[_,_,_,_]) st rfl rfl qV69 rfl ?_)
  intro b4 w hb4 st
  refine zA3 (zC4 st 0 [_,_,_,_] qZ69 ?_)
  intro w st;dsimp only [zA0,wr] at st
  refine et (vk4 4 16 17 18 (sr ?_))
  refine vy (zC3 rfl qU69 rfl rfl qZ9 rfl) ?_
  refine yl st 0 qA9 ?_
  refine zA3 (zA1 [_] rfl rfl call52 rfl (qU _ _) ?_)
  rintro _ _ ⟨rfl,rfl⟩
  refine vy (zG5 rfl) ?_
  refine vmb ?_ ?_
  ·intro hg26
   try simp only [dn] at hg26
   iterate 4 refine vsk ?_
   refine ypt ?_
   refine ym ?_
   iterate 4 refine vsk ?_
   refine ypt ?_
   refine et (vk4 16 17 18 37 ?_)
   refine zC9 rfl ?_
   refine sr ?_
   refine ya ?_
   refine et (vk1 2 (zA8 (zA4 (zA (zA (zA4 (zA ?_)))))))
   refine vr1 st results38 ?_
   refine⟨?_,st.chg⟩
   show Value.bool _=Value.bool _
   congr 1
   symm
   unfold qD4
   clear st
   try simp only [show decide (1≤64)=true from rfl,Bool.true_and] at *
   (rw [zR7 (p:=qL2) htj (by unfold qL2;simp only [*,Bool.and_false,Bool.false_and,Bool.and_true,Bool.true_and])];simp)
  intro hg26
  try simp only [dn] at hg26
  refine yfz 1 qU69 qZ23 ?_
  refine yl st 0 qA23 ?_
  refine zA3 (zA1 [_,_] rfl rfl call92 rfl (qY4 t.locals _ _ false _ (RowC.kept htl st.sm) (by have:=hkt.1.1;unfold maxLen;omega)) ?_)
  rintro _ w ⟨rfl,cw⟩
  replace st:=st.call0 cw
  refine vy (zG5 rfl) ?_
  refine ypf ?_
  refine vmb ?_ ?_
  ·intro hg32
   try simp only [dn] at hg32
   iterate 4 refine vsk ?_
   refine ypt ?_
   refine et (vk4 16 17 18 37 ?_)
   refine zC9 rfl ?_
   refine sr ?_
   refine ya ?_
   refine et (vk1 2 (zA8 (zA4 (zA (zA (zA4 (zA ?_)))))))
   refine vr1 st results38 ?_
   refine⟨?_,st.chg⟩
   show Value.bool _=Value.bool _
   congr 1
   symm
   unfold qD4
   clear st
   try simp only [show decide (1≤64)=true from rfl,Bool.true_and] at *
   (rw [zR7 (p:=qL2) htj (by unfold qL2;simp only [*,Bool.and_false,Bool.false_and,Bool.and_true,Bool.true_and])];simp)
  intro hg32
  try simp only [dn] at hg32
  refine yfz 2 qU69 qZ65 ?_
  refine yl st 0 qA65 ?_
  refine zA3 (zA1 [_,_] rfl rfl call93 rfl (kP8 _ t.body rfl 1 (by omega) (.inr (by omega)) _ _ _ (htb.kept st.sm) hkt.2.1 (hsg.kept st.chg)) ?_)
  rintro _ w ⟨rfl,cw⟩
  replace st:=st.call0 cw
  refine vy (zG5 rfl) ?_
  refine ypf ?_
  refine et (vk4 16 17 18 37 ?_)
  refine vif ?_ ?_
  ·intro hc37
   try simp only [dn] at hc37
   refine sr ?_
   refine ya ?_
   refine et (vk1 2 (zA8 (zA4 (zA (zA (zA4 (zA ?_)))))))
   refine vr1 st results38 ?_
   refine⟨?_,st.chg⟩
   show Value.bool _=Value.bool _
   congr 1
   symm
   unfold qD4
   clear st
   try simp only [show decide (1≤64)=true from rfl,Bool.true_and] at *
   (rw [zR7 (p:=qL2) htj (by unfold qL2;simp only [*,Bool.and_false,Bool.false_and,Bool.and_true,Bool.true_and])];simp)
  intro hc37
  try simp only [dn] at hc37
  refine zA5 (zE0 (zA6 (vk3 16 17 18 (zB4 ?_))))
  refine vy (zK2 rfl rfl (by omega:_=((j+1:Nat):Int)) (by omega) (by omega)) ?_
  refine ym ?_
  refine zI6 ?_
  refine zA7 (j+1)  ⟨rfl,rfl,rfl,trivial⟩ (st.dr) ?_ ?_
  ·exact⟨by omega,zO0 hall htj (by unfold qL2;clear st;(try simp only [show decide (1≤64)=true from rfl,Bool.true_and] at *);simp only [*,Bool.and_self])⟩
  omega
 intro hc19
 try simp only [dn] at hc19
 refine zJ1 (zB3 (zB3 (zC0 (zA6 (zR0 [] trivial (sr ?_))))))
 refine ya ?_
 refine et (vk1 2 (zA8 ?_))
 refine vr1 st results38 ?_
 refine⟨?_,st.chg⟩
 show Value.bool _=Value.bool _
 congr 1
 symm
 unfold qD4
 clear st
 try simp only [show decide (1≤64)=true from rfl,Bool.true_and] at *
 (rw [‹p.shared.all (zQ1 true)=true›,‹p.locks.all (zQ1 false)=true›,qK4 hall (by omega)];rfl)
set_option maxHeartbeats 1000000 in
theorem gZ7 (p:Pg) (os ol ot:Option Addr) (cs cl ct:Nat) (w:World) (hS:DcRow w S os p.shared) (hL:DcRow w S ol p.locks) (hT:ThRow w S ot p.threads) (hok:OkP p):Ret Tryz.prog 57 [.agg (pgL p os ol ot cs cl ct).toArray] w fun v w'=>v=.bool (qD4 p)∧Chg [] w w':=by
 refine zB [_] func57 rfl ntmps57 rfl ?_
 have st:=St.init w []
 obtain⟨w0,rfl⟩:∃ w0,w0=w:=⟨_,rfl⟩
 have hn1:=hok.1.1
 have hn2:=hok.2.1.1
 have hn3:=hok.2.2.1
 refine sr ?_
 refine zA3 (zT2 (l:=[_,_,_]) st rfl rfl rfl rfl ?_)
 intro b1 w hb1 st
 refine ya ?_
 refine et (vk1 1 (zC5 (sr ?_)))
 refine ya ?_
 refine et (vk2 1 3 (zD6 ?_))
 refine zC (w0:=w0) (M:=[]) (fun (j:Nat)=>[(1,.pointer (some ⟨b1,0,none⟩)),(3,.int .i64 (j:Int))]) (fun _=>[.blk b1 (.cells (pgL p os ol ot cs cl ct).toArray 26 (0,0))]) (fun j _=>j≤p.shared.length∧(p.shared.take j).all (zQ1 true)=true) (fun j=>p.shared.length - j) 0 ⟨rfl,rfl,trivial⟩ st ⟨by omega,by simp⟩ ?_
 clear st
 rintro j w ⟨hj,hall⟩ st
 refine zC5 (sr ?_)
 refine ym ?_
 refine vy (zC3 rfl qU26 rfl rfl qZ23 rfl) ?_
 refine yl st 0 qA23 ?_
 refine vy (zB1 rfl qU23) ?_
 refine vy (zM5 rfl rfl) ?_
 refine et (vk3 1 3 10 ?_)
 refine vif ?_ ?_
 ·intro hc10
  try simp only [dn] at hc10
  obtain⟨x,hx⟩:∃ x,p.shared[j]?=some x:=⟨_,List.getElem?_eq_getElem (by omega)⟩
  obtain⟨gb,go,rfl,hgS,hgl,hg⟩:=DcRow.at hS (by omega)
  have hc:=hg j x hx
  refine kt (vk2 1 3 (zC5 (zD6 (sr ?_))))
  refine vy (zC3 rfl qU26 rfl rfl qZ23 rfl) ?_
  refine yl st 0 qA23 ?_
  refine ym ?_
  refine vy (zM3 (k:=j) rfl rfl qU23 qZ63 rfl (by omega)) ?_
  refine vy (zC3 rfl qU63 rfl rfl qZ9 rfl) ?_
  refine vy (zD8 rfl qA9 (st.chg.cell (hc 0 _ rfl) (by simp))) ?_
  refine zA3 (zA1 [_] rfl rfl call58 rfl (zM9 _ _) ?_)
  rintro _ _ ⟨rfl,rfl⟩
  refine vy (zG5 rfl) ?_
  refine vmb ?_ ?_
  ·intro hg21
   try simp only [dn] at hg21
   iterate 7 refine vsk ?_
   refine ypt ?_
   refine et (vk3 1 3 29 ?_)
   refine zC9 rfl ?_
   refine sr ?_
   refine ya ?_
   refine et (vk1 2 (zA8 (zA4 (zA (zA (zA4 (zA ?_)))))))
   refine vr1 st results57 ?_
   refine⟨?_,st.chg⟩
   unfold qD4
   rw [zR7 (p:=zQ1 true) hx (by clear st;unfold zQ1;simp_all)];rfl
  intro hg21
  try simp only [dn] at hg21
  refine vy (zC3 rfl qU26 rfl rfl qZ23 rfl) ?_
  refine yl st 0 qA23 ?_
  refine ym ?_
  refine vy (zM3 (k:=j) rfl rfl qU23 qZ63 rfl (by omega)) ?_
  refine vy (zU9 (k:=1) rfl qU63 rfl rfl qZ2 rfl) ?_
  refine vy (zD8 rfl qA2 (st.chg.cell (hc 1 _ rfl) (by simp))) ?_
  refine vy (zK5 rfl rfl) ?_
  refine ypf ?_
  refine et (vk3 1 3 29 ?_)
  refine vif ?_ ?_
  ·intro hc29
   try simp only [dn] at hc29
   refine sr ?_
   refine ya ?_
   refine et (vk1 2 (zA8 (zA4 (zA (zA (zA4 (zA ?_)))))))
   refine vr1 st results57 ?_
   refine⟨?_,st.chg⟩
   unfold qD4
   rw [zR7 (p:=zQ1 true) hx (by clear st;unfold zQ1;simp_all)];rfl
  intro hc29
  try simp only [dn] at hc29
  refine zA5 (zE0 (zA6 (vk2 1 3 (zB4 ?_))))
  refine ym ?_
  refine vy (zK2 rfl rfl (by omega:_=((j+1:Nat):Int)) (by omega) (by omega)) ?_
  refine ya ?_
  refine zI6 ?_
  refine zA7 (j+1)  ⟨rfl,rfl,trivial⟩ (st.dr) ?_ ?_
  ·exact⟨by omega,zO0 hall hx (by clear st;unfold zQ1;simp_all)⟩
  omega
 intro hc10
 try simp only [dn] at hc10
 have hSh:=qK4 hall (by omega)
 clear hall
 refine zJ1 (zB3 (zB3 (zC0 (zA6 (vk1 1 (zC5 (sr ?_)))))))
 refine yfz 1 qU26 qZ23 ?_
 refine yl st 0 qA23 ?_
 refine zA3 (zA1 [_] rfl rfl call121 rfl (gC9 p.locks _ _ _ (RowC.kept hL st.sm) (by unfold maxLen;omega)) ?_)
 rintro _ w ⟨rfl,cw⟩
 replace st:=st.call0 cw
 refine vy (zG5 rfl) ?_
 refine et (vk2 1 33 ?_)
 refine vif ?_ ?_
 ·intro hc33
  try simp only [dn] at hc33
  refine sr ?_
  refine ya ?_
  refine et (vk1 2 (zA8 (zA ?_)))
  refine vr1 st results57 ?_
  refine⟨?_,st.chg⟩
  show Value.bool _=Value.bool _
  congr 1
  symm
  unfold qD4
  clear st
  try simp only [show decide (1≤64)=true from rfl,Bool.true_and] at *
  (rw [‹p.locks.all (zQ1 false)=false›];simp;done)
 intro hc33
 try simp only [dn] at hc33
 refine kt (vk1 1 (zC5 (sr ?_)))
 refine ya ?_
 refine et (vk2 1 4 (zD6 ?_))
 refine zC (w0:=w0) (M:=[]) (fun (j:Nat)=>[(1,.pointer (some ⟨b1,0,none⟩)),(4,.int .i64 (j:Int))]) (fun _=>[.blk b1 (.cells (pgL p os ol ot cs cl ct).toArray 26 (0,0))]) (fun j _=>j≤p.threads.length∧(p.threads.take j).all qL2=true) (fun j=>p.threads.length - j) 0 ⟨rfl,rfl,trivial⟩ st ⟨by omega,by simp⟩ ?_
 clear st
 rintro j w ⟨hj,hall⟩ st
 refine zC5 (sr ?_)
 refine ym ?_
 refine yfz 2 qU26 qZ24 ?_
 refine yl st 0 qA24 ?_
 refine vy (zB1 rfl qU24) ?_
 refine vy (zM5 rfl rfl) ?_
 refine et (vk3 1 4 38 ?_)
 refine vif ?_ ?_
 ·intro hc38
  try simp only [dn] at hc38
  obtain⟨t,htj⟩:∃ t,p.threads[j]?=some t:=⟨_,List.getElem?_eq_getElem (by omega)⟩
  obtain⟨gb,go,rfl,hgS,hgl,hg⟩:=ThRow.at hT (by omega)
  obtain⟨tl,tb,cll,cbb,htl,htb,hc⟩:=hg j t htj
  have hkt:=hok.2.2.2 j t htj
  refine kt (vk2 1 4 (zC5 (zD6 (sr ?_))))
  refine yfz 2 qU26 qZ24 ?_
  refine yl st 0 qA24 ?_
  refine ym ?_
  refine vy (zM3 (k:=j) rfl rfl qU24 qZ69 rfl (by omega)) ?_
  refine vy (zE6 (thL t tl tb cll cbb) rfl qA69 qZ69 rfl (fun i v hi=>st.chg.cell (hc i v hi) (by simp))) ?_
  refine zA3 (zF8 (l:=[_,_,_,_]) st rfl rfl qV69 rfl ?_)
  intro b5 w hb5 st
  refine zA3 (zC4 st 0 [_,_,_,_] qZ69 ?_)
  intro w st;dsimp only [zA0,wr] at st
  refine et (vk3 1 4 5 (sr ?_))
  refine vy (zC3 rfl qU69 rfl rfl qZ9 rfl) ?_
  refine yl st 0 qA9 ?_
  refine zA3 (zA1 [_] rfl rfl call58 rfl (zM9 _ _) ?_)
  rintro _ _ ⟨rfl,rfl⟩
  refine vy (zG5 rfl) ?_
  refine vmb ?_ ?_
  ·intro hg50
   try simp only [dn] at hg50
   iterate 4 refine vsk ?_
   refine ypt ?_
   refine ym ?_
   iterate 4 refine vsk ?_
   refine ypt ?_
   refine et (vk3 1 4 61 ?_)
   refine zC9 rfl ?_
   refine sr ?_
   refine ya ?_
   refine et (vk1 2 (zA8 (zA4 (zA (zA (zA4 (zA ?_)))))))
   refine vr1 st results57 ?_
   refine⟨?_,st.chg⟩
   show Value.bool _=Value.bool _
   congr 1
   symm
   unfold qD4
   clear st
   try simp only [show decide (1≤64)=true from rfl,Bool.true_and] at *
   (rw [zR7 (p:=qL2) htj (by unfold qL2;simp only [*,Bool.and_false,Bool.false_and,Bool.and_true,Bool.true_and])];simp)
  intro hg50
  try simp only [dn] at hg50
  refine yfz 1 qU69 qZ23 ?_
  refine yl st 0 qA23 ?_
  refine zA3 (zA1 [_] rfl rfl call121 rfl (gC9 t.locals _ _ _ (RowC.kept htl st.sm) (by have:=hkt.1.1;unfold maxLen;omega)) ?_)
  rintro _ w ⟨rfl,cw⟩
  replace st:=st.call0 cw
  refine vy (zG5 rfl) ?_
  refine ypf ?_
  refine vmb ?_ ?_
  ·intro hg56
   try simp only [dn] at hg56
   iterate 4 refine vsk ?_
   refine ypt ?_
   refine et (vk3 1 4 61 ?_)
   refine zC9 rfl ?_
   refine sr ?_
   refine ya ?_
   refine et (vk1 2 (zA8 (zA4 (zA (zA (zA4 (zA ?_)))))))
   refine vr1 st results57 ?_
   refine⟨?_,st.chg⟩
   show Value.bool _=Value.bool _
   congr 1
   symm
   unfold qD4
   clear st
   try simp only [show decide (1≤64)=true from rfl,Bool.true_and] at *
   (rw [zR7 (p:=qL2) htj (by unfold qL2;simp only [*,Bool.and_false,Bool.false_and,Bool.and_true,Bool.true_and])];simp)
  intro hg56
  try simp only [dn] at hg56
  refine yfz 2 qU69 qZ65 ?_
  refine yl st 0 qA65 ?_
  refine zA3 (zA1 [_,_] rfl rfl call122 rfl (kB2 _ t.body rfl 1 (by omega) _ _ _ (htb.kept st.sm) hkt.2.1) ?_)
  rintro _ w ⟨rfl,cw⟩
  replace st:=st.call0 cw
  refine vy (zG5 rfl) ?_
  refine ypf ?_
  refine et (vk3 1 4 61 ?_)
  refine vif ?_ ?_
  ·intro hc61
   try simp only [dn] at hc61
   refine sr ?_
   refine ya ?_
   refine et (vk1 2 (zA8 (zA4 (zA (zA (zA4 (zA ?_)))))))
   refine vr1 st results57 ?_
   refine⟨?_,st.chg⟩
   show Value.bool _=Value.bool _
   congr 1
   symm
   unfold qD4
   clear st
   try simp only [show decide (1≤64)=true from rfl,Bool.true_and] at *
   (rw [zR7 (p:=qL2) htj (by unfold qL2;simp only [*,Bool.and_false,Bool.false_and,Bool.and_true,Bool.true_and])];simp)
  intro hc61
  try simp only [dn] at hc61
  refine zA5 (zE0 (zA6 (vk2 1 4 (zB4 ?_))))
  refine ym ?_
  refine vy (zK2 rfl rfl (by omega:_=((j+1:Nat):Int)) (by omega) (by omega)) ?_
  refine ya ?_
  refine zI6 ?_
  refine zA7 (j+1)  ⟨rfl,rfl,trivial⟩ (st.dr) ?_ ?_
  ·exact⟨by omega,zO0 hall htj (by unfold qL2;clear st;(try simp only [show decide (1≤64)=true from rfl,Bool.true_and] at *);simp only [*,Bool.and_self])⟩
  omega
 intro hc38
 try simp only [dn] at hc38
 refine zJ1 (zB3 (zB3 (zC0 (zA6 (zR0 [] trivial (sr ?_))))))
 refine ya ?_
 refine et (vk1 2 (zA8 ?_))
 refine vr1 st results57 ?_
 refine⟨?_,st.chg⟩
 show Value.bool _=Value.bool _
 congr 1
 symm
 unfold qD4
 clear st
 try simp only [show decide (1≤64)=true from rfl,Bool.true_and] at *
 (rw [hSh,‹p.locks.all (zQ1 false)=true›,qK4 hall (by omega)];rfl)
end
def gW8 (ts:List Th):List UInt8:=(ts.map thT).flatten
theorem qZ0 {ts:List Th} {j:Nat} {t:Th} (h:ts[j]?=some t):gW8 (ts.take (j+1))=gW8 (ts.take j)++thT t:=by
 obtain⟨hj,e⟩:=List.getElem?_eq_some_iff.1 h;unfold gW8;rw [List.take_succ_eq_append_getElem hj,e];simp
theorem kE8 (ts:List Th) (j:Nat):gW8 ts=gW8 (ts.take j)++gW8 (ts.drop j):=by
 unfold gW8;rw [← List.flatten_append,← List.map_append,List.take_append_drop]
def pgH (p:Pg):List UInt8:=gD5 [115,104,97,114,101,100] 0 p.shared++gD5 [108,111,99,107] 0 p.locks
theorem kR7 (p:Pg):pgT p=pgH p++gW8 p.threads:=rfl
theorem kM2 (p:Pg) (j:Nat):(pgH p++gW8 (p.threads.take j)).length≤(pgT p).length:=by
 rw [kR7,kE8 p.threads j];simp
theorem gU4 {p:Pg} (h:qD4 p=false):zY6 p=([],40):=by unfold zY6;rw [h];rfl
theorem qQ3 {p:Pg} (h:qD4 p=true) (hl:65536<(pgT p).length):zY6 p=([],4):=by unfold zY6;rw [if_pos h,if_neg (by omega)]
theorem gV8 {p:Pg} (h:qD4 p=true) (hl:(pgT p).length≤65536):zY6 p=(pgT p,0):=by unfold zY6;rw [if_pos h,if_pos hl]
theorem kW6 (word:List UInt8) (l:List Dc):gD5 word 1 l=if 0<l.length then [32,32]++gD5 word 0 l else []:=by
 unfold gD5
 by_cases h:l.length=0
 rw [if_pos h,if_neg (by omega)];rw [if_neg h,if_pos (by omega),if_neg h];simp [mar]
theorem WS.yes {l F:List UInt8} (h:WS l false F):l=F∧F.length≤65536:=by
 rcases h with ⟨_,h1,h2⟩|⟨h,_⟩
 exact⟨h1,h2⟩;cases h
theorem WS.long {l F:List UInt8} (h:WS l true F):65536<F.length:=by
 rcases h with ⟨h,_⟩|⟨_,h,_⟩
 cases h;exact h
theorem gV0 {p:Pg} (h:qD4 p=true):p.shared.all (zQ1 true)=true∧p.locks.all (zQ1 false)=true∧∀ (j:Nat) t,p.threads[j]?=some t→zH4 t.nm=true∧t.locals.all (zQ1 false)=true∧zE3 t.body 1=true:=by
 unfold qD4 at h;simp only [Bool.and_eq_true] at h;refine⟨h.1.1,h.1.2,fun j t hj=>?_⟩;have:=List.all_eq_true.1 h.2 t (List.mem_of_getElem? hj);unfold qL2 at this;simp only [Bool.and_eq_true] at this;exact⟨this.1.1,this.1.2,this.2⟩
set_option maxHeartbeats 2000000 in
theorem gP4 (p:Pg) (os ol ot:Option Addr) (cs cl ct:Nat) (w:World) (hS:DcRow w (·<w.heap.size) os p.shared) (hL:DcRow w (·<w.heap.size) ol p.locks) (hT:ThRow w (·<w.heap.size) ot p.threads) (hok:OkP p) :
    Ret Tryz.prog 72 [.agg (pgL p os ol ot cs cl ct).toArray] w fun v w'=>v=.tuple #[str (zY6 p).1,.int .i64 ((zY6 p).2:Int)]∧Chg [] w w':=by
 refine zB [_] func72 rfl ntmps72 rfl ?_;have st:=St.init w [];obtain⟨w0,rfl⟩:∃ w0,w0=w:=⟨_,rfl⟩
 have hn3:=hok.2.2.1;refine a2 ?_;refine zA3 (zT2 (l:=[_,_,_]) st rfl rfl rfl rfl ?_);intro b1 w hb1 st;refine a6 ?_;refine yla st 0 [_,_,_] qA26 qZ26 ?_;refine zA3 (zA1 [_] rfl rfl call57 rfl (gZ7 p _ _ _ _ _ _ _ (RowC.kept hS st.sm) (RowC.kept hL st.sm) (hT.kept st.sm) hok) ?_);rintro _ w ⟨rfl,cw⟩;replace st:=st.call0 cw;refine a10 ?_;refine vif ?_ ?_;intro hc10;(try simp only [dn] at hc10);refine a8 ?_;refine zG3 st (.inl rfl) results72 (.tmp rfl) (.tmp rfl) ?_;refine⟨_,rfl,?_⟩;refine⟨?_,st.chg⟩;rw [gU4 (by assumption)];rfl;intro hc10;(try simp only [dn] at hc10);refine a4 ?_;refine vy (ybd (.agg #[_,_]) []) ?_;refine zA3 (zT2 (l:=[_,_]) st rfl rfl rfl rfl ?_);intro b12 w hb12 st;refine a5 ?_;obtain⟨bw,rfl⟩:∃ bw,bw=b12:=⟨_,rfl⟩
 have hpo:qD4 p=true:=by assumption
 obtain⟨q1,q2,q3⟩:=gV0 hpo;replace st:=st.wrNew (E:=5) (n0:=w0.heap.size) hb12 (Nat.le_refl _);refine a1 ?_;refine vy (zC3 rfl qU26 rfl rfl qZ23 rfl) ?_;refine yl st 1 qA23 ?_;refine zA3 (zA1 [_,_,_] rfl rfl call135 rfl (qP1 p.shared true q1 hok.1 [115,104,97,114,101,100] (by simp) _ _ bw _ _ _ (RowC.kept hS st.sm) (st.wrGet (i:=0) rfl) st.chg.size) ?_);rintro _ w ⟨rfl,hp⟩;obtain⟨v9,st⟩:=st.wr (i:=0) rfl hp;dsimp only [zA0] at st;refine a5 ?_;refine yfz 1 qU26 qZ23 ?_;refine yl st 1 qA23 ?_;refine zA3 (zA1 [_,_,_] rfl rfl call135 rfl (qP1 p.locks false q2 hok.2.1 [108,111,99,107] (by simp) _ _ bw _ _ _ (RowC.kept hL st.sm) (st.wrGet (i:=0) rfl) st.chg.size) ?_);rintro _ w ⟨rfl,hp⟩;obtain⟨v9,st⟩:=st.wr (i:=0) rfl hp;dsimp only [zA0] at st;refine a9 ?_;refine zC (w0:=w0) (M:=[]) (fun (x:Nat×Value)=>[(1,.pointer (some ⟨b1,0,none⟩)),(5,.pointer (some ⟨bw,0,none⟩)),(6,.int .i64 (x.1:Int))]) (fun x=>[wrR [] w0.heap.size 5 w0.heap.size 162 bw x.2 (pgH p++gW8 (p.threads.take x.1)),.blk b1 (.cells (pgL p os ol ot cs cl ct).toArray 26 (0,0))]) (fun x _=>x.1≤p.threads.length) (fun x=>p.threads.length - x.1) (0,v9) ⟨rfl,rfl,rfl,trivial⟩ (by simpa [gW8,pgH] using st) (by simp) ?_;clear st;rintro ⟨j,v1⟩ w hj st;dsimp only at *;obtain⟨lq,many,hb,ho,hws,hx1,hx2⟩:=st.wrGet (i:=0) rfl;refine a4 ?_;refine yfz 2 qU26 qZ24 ?_;refine yl st 1 qA24 ?_;refine vy (zB1 rfl qU24) ?_;refine a1 ?_;refine vmb ?_ ?_
 ·intro hg26;(try simp only [dn] at hg26);refine a2 ?_;refine yfz 1 qU162 qZ4 ?_;refine vy (zD8 rfl qA4 (zZ hb)) ?_;refine a4 ?_;refine vif ?_ ?_
  ·intro hc32;(try simp only [dn] at hc32);refine a6 ?_;obtain⟨t,htj⟩:∃ t,p.threads[j]?=some t:=⟨_,List.getElem?_eq_getElem (by omega)⟩
   obtain⟨gb,go,rfl,hgS,hgl,hg⟩:=ThRow.at hT (by omega);obtain⟨tl,tb,cll,cbb,htl,htb,hc⟩:=hg j t htj;have hkt:=hok.2.2.2 j t htj;obtain⟨t1,t2,t3⟩:=q3 j t htj;have hnl:=zL9 t1;refine a1 ?_;refine yfz 2 qU26 qZ24 ?_;refine yl st 1 qA24 ?_;refine a1 ?_;refine vy (zM3 (k:=j) rfl rfl qU24 qZ69 rfl (by omega)) ?_;refine vy (zC3 rfl qU69 rfl rfl qZ9 rfl) ?_;refine vy (zD8 rfl qA9 (st.chg.cell (hc 0 _ rfl) (by simp))) ?_;(iterate 2 refine vy (qV8 rfl rfl (by simp only [List.length_append,List.length_cons,List.length_nil];omega)) ?_);refine zA3 (zA1 [_,_] rfl rfl call136 rfl (zE1 bw _ _ _ _ (st.wrGet (i:=0) rfl) st.chg.size (by simp only [List.length_append,List.length_cons,List.length_nil];omega)) ?_);rintro _ w ⟨rfl,hp⟩;obtain⟨v9,st⟩:=st.wr (i:=0) rfl hp;dsimp only [zA0] at st;refine a2 ?_;refine zL2 (w0:=w0) (M:=[]) (fun (_:Value)=>[(1,.pointer (some ⟨b1,0,none⟩)),(5,.pointer (some ⟨bw,0,none⟩)),(6,.int .i64 (j:Int))]) (fun v1=>[wrR [] w0.heap.size 5 w0.heap.size 162 bw v1 (pgH p++gW8 (p.threads.take j)++([116,104,114,101,97,100,32]++t.nm++[32,123,10])++gD5 [108,111,99,97,108] 1 t.locals),.blk b1 (.cells (pgL p os ol (some ⟨gb,go,none⟩) cs cl ct).toArray 26 (0,0))]) (fun _ _=>True) ?_ ?_
   ·refine a2 ?_;refine yfz 2 qU26 qZ24 ?_;refine yl st 1 qA24 ?_;refine a1 ?_;refine vy (zM3 (k:=j) rfl rfl qU24 qZ69 rfl (by omega)) ?_;refine vy (zU9 (k:=1) rfl qU69 rfl rfl qZ23 rfl) ?_;refine vy (zD8 rfl qA23 (st.chg.cell (hc 1 _ rfl) (by simp))) ?_;refine vy (zB1 rfl qU23) ?_;refine a3 ?_;refine vif ?_ ?_;intro hc52;(try simp only [dn] at hc52);refine a3 ?_;refine zA3 (zA1 [_,_] rfl rfl call136 rfl (zE1 bw _ _ _ _ (st.wrGet (i:=0) rfl) st.chg.size (by simp only [List.length_append,List.length_cons,List.length_nil];omega)) ?_);rintro _ w ⟨rfl,hp⟩;obtain⟨v9,st⟩:=st.wr (i:=0) rfl hp;dsimp only [zA0] at st;refine a4 ?_;refine yfz 2 qU26 qZ24 ?_;refine yl st 1 qA24 ?_;refine a1 ?_;refine vy (zM3 (k:=j) rfl rfl qU24 qZ69 rfl (by omega)) ?_;refine vy (zU9 (k:=1) rfl qU69 rfl rfl qZ23 rfl) ?_;refine vy (zD8 rfl qA23 (st.chg.cell (hc 1 _ rfl) (by simp))) ?_;refine zA3 (zA1 [_,_,_] rfl rfl call135 rfl (qP1 t.locals false t2 hkt.1 [108,111,99,97,108] (by simp) _ _ bw _ _ _ (RowC.kept htl st.sm) (st.wrGet (i:=0) rfl) st.chg.size) ?_);rintro _ w ⟨rfl,hp⟩;obtain⟨v9,st⟩:=st.wr (i:=0) rfl hp;dsimp only [zA0] at st;refine a1 ?_
    rotate_left
    intro hc52;(try simp only [dn] at hc52);refine a1 ?_
    all_goals
     refine zB8 v9 ⟨rfl,rfl,rfl,trivial⟩ (by rw [kW6];first|(rw [if_pos (by omega)];simpa only [List.append_assoc] using st)|(rw [if_neg (by omega),List.append_nil];exact st)) ?_;trivial
   clear st;rintro v2 w - st;refine a3 ?_;refine yfz 2 qU26 qZ24 ?_;refine yl st 1 qA24 ?_;refine a1 ?_;refine vy (zM3 (k:=j) rfl rfl qU24 qZ69 rfl (by omega)) ?_;refine vy (zU9 (k:=2) rfl qU69 rfl rfl qZ65 rfl) ?_;refine vy (zD8 rfl qA65 (st.chg.cell (hc 2 _ rfl) (by simp))) ?_;refine zA3 (zA1 [_,_,_] rfl rfl call137 rfl (gR8 _ t.body rfl 1 (by omega) t3 hkt.2.1 bw _ _ _ _ _ (htb.kept st.sm) (st.wrGet (i:=0) rfl) st.chg.size) ?_);rintro _ w ⟨rfl,hp⟩;obtain⟨v9,st⟩:=st.wr (i:=0) rfl hp;dsimp only [zA0] at st;refine a4 ?_;refine zA3 (zA1 [_,_] rfl rfl call136 rfl (zE1 bw _ _ _ _ (st.wrGet (i:=0) rfl) st.chg.size (by simp only [List.length_append,List.length_cons,List.length_nil];omega)) ?_);rintro _ w ⟨rfl,hp⟩;obtain⟨v9,st⟩:=st.wr (i:=0) rfl hp;dsimp only [zA0] at st;refine a5 ?_;refine vy (yin ((j+1:Nat):Int)) ?_;refine a2 ?_;refine zA7 (j+1,v9)  ⟨rfl,rfl,rfl,trivial⟩ (by rw [qZ0 htj];unfold thT;simpa only [List.append_assoc] using st) ?_ ?_;dsimp only;omega;dsimp only;omega
  intro hc32;(try simp only [dn] at hc32);refine a8 ?_;obtain⟨l2,many2,hb2,ho2,hws2,-,-⟩:=st.wrGet (i:=0) rfl;obtain⟨oq,cq,hvq⟩:=zJ3 ho2;subst hvq;refine a2 ?_;refine yfz 1 qU162 qZ4 ?_;refine vy (zD8 rfl qA4 (zZ hb2)) ?_;refine a2 ?_;refine vif ?_ ?_;intro hc76;(try simp only [dn] at hc76);refine a8 ?_
  rotate_left
  intro hc76;(try simp only [dn] at hc76);refine a6 ?_;refine vy (zC3 rfl qU162 rfl rfl qZ78 rfl) ?_;refine vy (zD8 rfl qA78 (zD7 (l:=[_,_]) hb2 rfl)) ?_;refine vy (qY5 rfl (p:=l2) (gA ho2) rfl qU78 qU5 qU9) ?_;refine a5 ?_
  all_goals
   refine zG3 st (.inl rfl) results72 (.tmp rfl) (.tmp rfl) ?_;refine⟨_,rfl,?_⟩;refine⟨?_,st.chg⟩;have hle:=kM2 p j
   first
    | (have hm : many2 = true := by assumption
       subst hm
       have h1:=WS.long hws2
       rw [qQ3 hpo (by omega)];rfl)
    | (have hm : many2 = false := by assumption
       subst hm
       obtain⟨h1,h2⟩:=WS.yes hws2
       first
         | (have hm : many = true := by assumption
            subst hm
            have:=WS.long hws
            omega))
 intro hg26;(try simp only [dn] at hg26);refine a16 ?_;refine a1 ?_;obtain⟨l2,many2,hb2,ho2,hws2,-,-⟩:=st.wrGet (i:=0) rfl;obtain⟨oq,cq,hvq⟩:=zJ3 ho2;subst hvq;refine a2 ?_;refine yfz 1 qU162 qZ4 ?_;refine vy (zD8 rfl qA4 (zZ hb2)) ?_;refine a2 ?_;refine vif ?_ ?_;intro hc76;(try simp only [dn] at hc76);refine a8 ?_
 rotate_left
 intro hc76;(try simp only [dn] at hc76);refine a6 ?_;refine vy (zC3 rfl qU162 rfl rfl qZ78 rfl) ?_;refine vy (zD8 rfl qA78 (zD7 (l:=[_,_]) hb2 rfl)) ?_;refine vy (qY5 rfl (p:=l2) (gA ho2) rfl qU78 qU5 qU9) ?_;refine a5 ?_
 all_goals
  refine zG3 st (.inl rfl) results72 (.tmp rfl) (.tmp rfl) ?_;refine⟨_,rfl,?_⟩;refine⟨?_,st.chg⟩;have hle:=kM2 p j
  first
   | (have hm : many2 = true := by assumption
      subst hm
      have h1:=WS.long hws2
      rw [qQ3 hpo (by omega)];rfl)
   | (have hm : many2 = false := by assumption
      subst hm
      obtain⟨h1,h2⟩:=WS.yes hws2
      first
        | (obtain rfl : j = p.threads.length := by omega
           rw [List.take_length,← kR7] at h1 h2
           subst h1
           rw [gV8 hpo h2];rfl))
end Go.Proofs.YtnmhlpnapgojjaaGreatDoor
/- The engine,seventeenth part: a byte slice in a box that a closure holds. -/
namespace Sx
open Go Go.RowKit
section
variable {w0 w w':World} {M:List Nat} {hs:List Res} {E n0 T b n n':Nat} {v v':Value} {l l':List UInt8} {xs xs':List Value}
def RowP (E:Nat) (v v':Value) (n':Nat) (xs':List Value) (w w':World):Prop:=w'.ownsRow 0 E 1 v' n' xs'∧Chg v.ownBlock.toList w w'∧∀ k,v'.ownBlock=some k→v.ownBlock=some k∨w.heap.size≤k
theorem St.frnP (st:St w0 M hs w) {i:Nat} (hi:nth hs i=some (frn M w0.heap.size E v n xs)) (p:RowP E v v' n' xs' w w'):St w0 M (zA0 hs i (frn M w0.heap.size E v' n' xs')) w':=by
  obtain⟨⟨h1,h2⟩,-⟩:=st.res hi
  obtain⟨p1,p2,p3⟩:=p
  refine st.swap hi p2 (by simp [Res.at?,frn]) (fun k hk=>h2 k (by simpa using hk)) (fun k hk=>?_) (qB2 p1 fun k hk=>?_)
  · simp only [Res.at?,frn,Option.mem_toList] at hk ⊢
    exact p3 k hk
  · rcases p3 k hk with h|h
    · exact h2 k h
    · exact .inr (Nat.le_trans st.chg.size h)
theorem St.frnInit (h:w.ownsRow 0 E 1 v n xs):St w v.ownBlock.toList [frn v.ownBlock.toList w.heap.size E v n xs] w:=
  ⟨Chg.refl _ _,List.pairwise_singleton _ _,by
    intro r hr
    simp only [List.mem_singleton] at hr
    subst hr
    exact qB2 h (fun k hk=>.inl (Option.mem_toList.2 hk))⟩
theorem St.frnDone {v0:Value} (st:St w0 v0.ownBlock.toList hs w) {i:Nat} (hi:nth hs i=some (frn v0.ownBlock.toList w0.heap.size E v n xs)):RowP E v0 v n xs w0 w:=by
  obtain⟨⟨h1,h2⟩,-⟩:=st.res hi
  exact⟨h1,st.chg,fun k hk=>(h2 k hk).imp (fun h=>by simpa using h) id⟩
theorem St.frnGet (st:St w0 M hs w) {i:Nat} (hi:nth hs i=some (frn M w0.heap.size E v n xs)):w.ownsRow 0 E 1 v n xs:=(st.res hi).1.1
theorem St.frnN (st:St w0 M hs w) {i:Nat} (hi:nth hs i=some (frn M w0.heap.size E v n xs)) (hM:∀ k∈M,n0≤k) (hn:n0≤w0.heap.size):∀ k,v.ownBlock=some k→n0≤k:=fun k hk=>by
  rcases (st.res hi).1.2 k hk with h|h
  · exact hM k h
  · omega
theorem St.split2 {q r s:Res} (st:St w0 M (q::hs) w) (h1:∀ k∈r.at?,k∈q.at?) (h2:∀ k∈s.at?,k∈q.at?) (h3:∀ k∈r.at?,k∉s.at?) (hr:r.holds w0.heap.size w) (hs':s.holds w0.heap.size w):St w0 M (r::s::hs) w:=by
  have hnd:=List.pairwise_cons.1 st.nodup
  refine⟨st.chg,List.pairwise_cons.2 ⟨fun x hx=>?_,List.pairwise_cons.2 ⟨fun x hx k hk=>hnd.1 x hx k (h2 k hk),hnd.2⟩⟩,fun x hx=>?_⟩
  · rcases List.mem_cons.1 hx with rfl|hx
    · exact h3
    · exact fun k hk=>hnd.1 x hx k (h1 k hk)
  · rcases List.mem_cons.1 hx with rfl|hx
    · exact hr
    · rcases List.mem_cons.1 hx with rfl|hx
      · exact hs'
      · exact st.here x (.tail _ hx)
def Bx (E n0 T b:Nat) (v:Value) (l:List UInt8) (w:World):Prop:=w.heap[b]?=some (.cells #[v] T (0,0))∧w.ownsRow 0 E 1 v l.length (zE2 l)∧n0≤b∧∀ k,v.ownBlock=some k→n0≤k∧k≠b
def BxP (E n0 T b:Nat) (v v':Value) (l':List UInt8) (w w':World):Prop:=Bx E n0 T b v' l' w'∧Chg (b::v.ownBlock.toList) w w'∧∀ k,v'.ownBlock=some k→v.ownBlock=some k∨w.heap.size≤k
theorem Bx.lt (h:Bx E n0 T b v l w):∀ k∈b::v.ownBlock.toList,k<w.heap.size:=by
  obtain⟨hb,ho,h1,h2⟩:=h
  intro k hk
  rcases List.mem_cons.1 hk with rfl|hk
  · exact(Array.getElem?_eq_some_iff.1 hb).1
  · exact(World.ownsRow.lt ho k (by simpa using hk)).2
theorem Bx.notin (h:Bx E n0 T b v l w) {k:Nat} (hk:k<n0):k∉b::v.ownBlock.toList:=by
  obtain⟨hb,ho,h1,h2⟩:=h
  intro h
  rcases List.mem_cons.1 h with rfl|h
  · omega
  · have:=(h2 k (by simpa using h)).1;omega
theorem St.bxGet (st:St w0 M (.blk b (.cells [v].toArray T (0,0))::frn M w0.heap.size E v l.length (zE2 l)::hs) w) (hb:n0≤b) (hn:∀ k,v.ownBlock=some k→n0≤k):Bx E n0 T b v l w:=by
  have h1:w.heap[b]?=some (.cells #[v] T (0,0)):=st.res (i:=0) rfl
  refine⟨h1,(st.res (i:=1) rfl).1.1,hb,fun k hk=>⟨hn k hk,fun e=>?_⟩⟩
  subst e
  exact zH3 (i:=0) (j:=1) st.nodup (by simp) rfl rfl k (.head _) (Option.mem_toList.2 hk)
theorem St.bxCall (st:St w0 M (.blk b (.cells [v].toArray T (0,0))::frn M w0.heap.size E v l.length (zE2 l)::hs) w) (hm:b∈M∨w0.heap.size≤b) (p:BxP E n0 T b v v' l' w w') :
    St w0 M (.blk b (.cells [v'].toArray T (0,0))::frn M w0.heap.size E v' l'.length (zE2 l')::hs) w'∧∀ k,v'.ownBlock=some k→n0≤k:=by
  obtain⟨⟨q1,q2,q3,q4⟩,p2,p3⟩:=p
  have h1:w.heap[b]?=some (.cells #[v] T (0,0)):=st.res (i:=0) rfl
  obtain⟨⟨h2,h3⟩,-⟩:=st.res (i:=1) rfl
  have hb:b<w.heap.size:=(Array.getElem?_eq_some_iff.1 h1).1
  have st1:=st.join (q:=.tree (b::v.ownBlock.toList) (fun _=>True)) (fun k hk=>(List.mem_cons.1 hk).imp (fun h=>by simp [Res.at?,h]) id) ⟨trivial,fun k hk=>by
    rcases List.mem_cons.1 hk with rfl|hk
    · exact hb
    · exact(World.ownsRow.lt h2 k (by simpa using hk)).2,fun _ _ _ _ _=>trivial⟩
  have hlt:∀ k∈b::v'.ownBlock.toList,k<w'.heap.size:=Bx.lt (n0:=n0) (l:=l') ⟨q1,q2,q3,q4⟩
  have st2:=st1.swap (i:=0) (r':=.tree (b::v'.ownBlock.toList) (fun _=>True)) rfl p2 (fun k hk=>hk) (fun k hk=>by
    rcases List.mem_cons.1 hk with rfl|hk
    · exact hm
    · exact h3 k (by simpa using hk)) (fun k hk=>by
    rcases List.mem_cons.1 hk with rfl|hk
    · exact .inl (.head _)
    · exact(p3 k (by simpa using hk)).imp (fun h=>.tail _ (Option.mem_toList.2 h)) id) ⟨trivial,hlt,fun _ _ _ _ _=>trivial⟩
  refine⟨st2.split2 (fun k hk=>by simp only [Res.at?,List.mem_singleton] at hk;subst hk;exact .head _) (fun k hk=>.tail _ hk) (fun k hk hk'=>?_) q1 (qB2 q2 fun k hk=>?_),fun k hk=>(q4 k hk).1⟩
  · simp only [Res.at?,List.mem_singleton] at hk
    subst hk
    exact(q4 k (Option.mem_toList.1 hk')).2 rfl
  · rcases p3 k hk with h|h
    · exact h3 k h
    · exact .inr (Nat.le_trans st.chg.size h)
theorem St.bxInit (h:Bx E n0 T b v l w):St w (b::v.ownBlock.toList) [.blk b (.cells [v].toArray T (0,0)),frn (b::v.ownBlock.toList) w.heap.size E v l.length (zE2 l)] w:=by
  obtain⟨hb,ho,h1,h2⟩:=h
  refine⟨Chg.refl _ _,List.pairwise_cons.2 ⟨fun s hs k hk hk'=>?_,List.pairwise_singleton _ _⟩,?_⟩
  · simp only [List.mem_singleton] at hs
    subst hs
    simp only [Res.at?,List.mem_singleton] at hk
    subst hk
    exact(h2 k (Option.mem_toList.1 hk')).2 rfl
  · intro r hr
    simp only [List.mem_cons,List.not_mem_nil,or_false] at hr
    rcases hr with rfl|rfl
    · exact hb
    · exact qB2 ho (fun k hk=>.inl (.tail _ (Option.mem_toList.2 hk)))
theorem St.bxDone {v0:Value} {i j len:Nat} (st:St w0 (b::v0.ownBlock.toList) hs w) (hi:nth hs i=some (.blk b (.cells [v].toArray T (0,0)))) (hj:nth hs j=some (frn (b::v0.ownBlock.toList) w0.heap.size E v len (zE2 l))) (hl:l.length=len)
    (hn:n0≤b) (h0:∀ k,v0.ownBlock=some k→n0≤k∧k≠b) (hw:n0≤w0.heap.size):BxP E n0 T b v0 v l w0 w:=by
  subst hl
  have hb:w.heap[b]?=some (.cells #[v] T (0,0)):=st.res hi
  obtain⟨⟨ho,hm⟩,-⟩:=st.res hj
  have key:∀ k,v.ownBlock=some k→(v0.ownBlock=some k∨w0.heap.size≤k)∧n0≤k∧k≠b:=by
    intro k hk
    have hne:k≠b:=by
      intro e
      have hij:i≠j:=by
        rintro rfl
        rw [hi] at hj
        cases hj
      exact(zH3 st.nodup hij hi hj) b (.head _) (Option.mem_toList.2 (e▸hk))
    rcases hm k hk with h|h
    · rcases List.mem_cons.1 h with rfl|h
      · exact absurd rfl hne
      · have h':v0.ownBlock=some k:=by simpa using h
        exact⟨.inl h',(h0 k h').1,hne⟩
    · exact⟨.inr h,by omega,hne⟩
  exact⟨⟨hb,ho,hn,fun k hk=>(key k hk).2⟩,st.chg,fun k hk=>(key k hk).1⟩
end
end Sx
namespace Go.Proofs.YtnmhlpnapgojjaaGreatDoor
open Go.RowKit Sx LexS _root_.Go.Proofs.Tryz
def TxR (l G r:List UInt8):Prop:=(l.length+G.length≤65536→r=l++G)∧(65536<l.length+G.length→65536<r.length)∧r.length≤l.length+G.length∧l.length≤r.length
theorem TxR.app (l G:List UInt8):TxR l G (l++G):=⟨fun _=>rfl,fun h=>by simpa using h,by simp,by simp⟩
theorem TxR.skip {l:List UInt8} (h:65536<l.length) (G:List UInt8):TxR l G l:=⟨fun h1=>by omega,fun _=>h,by omega,by omega⟩
theorem TxR.trans {l G r G' r':List UInt8} (h:TxR l G r) (h':TxR r G' r'):TxR l (G++G') r':=by
 obtain⟨a1,a2,a3,a4⟩:=h;obtain⟨b1,b2,b3,b4⟩:=h';refine⟨fun hl=>?_,fun hl=>?_,?_,by omega⟩;simp only [List.length_append] at hl;have:=a1 (by omega);subst this;rw [b1 (by simp;omega),List.append_assoc];simp only [List.length_append] at hl;rcases Nat.lt_or_ge 65536 (l.length+G.length) with h|h;have:=a2 h;omega;have:=a1 h;subst this;exact b2 (by simp;omega);simp only [List.length_append];omega
section
variable {n0:Nat}
set_option maxHeartbeats 1000000 in
theorem gH6 (x:Ex) (hrec:∀ (v:Value) (l:List UInt8) (w:World) (ll:List Value),ExV w (·<n0) x ll→w.ownsRow 0 5 1 v l.length (zE2 l)→(∀ k,v.ownBlock=some k→n0≤k)→n0≤w.heap.size→0<n0→Sig w→l.length+(txtE x).length≤1099511627776→
      Ret Tryz.prog 47 [v,.agg ll.toArray] w fun r w'=>∃ l',RowP 5 v r l'.length (zE2 l') w w'∧TxR l (txtE x) l')
  (b:Bool) (o:Option Addr) (c:Nat) (bx:Nat) (v:Value) (l:List UInt8) (w:World) (hV:ExV w (·<n0) x (exL x o c)) (hB:Bx 5 n0 78 bx v l w) (hn0:n0≤w.heap.size) (h0:0<n0) (hsg:Sig w) (hl:l.length+(par b (txtE x)).length≤1099511627776) :
  Ret Tryz.prog 106 [.agg (exL x o c).toArray,.bool b,.pointer (some ⟨bx,0,none⟩)] w fun r w'=>r=.tuple #[]∧∃ v' l',BxP 5 n0 78 bx v v' l' w w'∧TxR l (par b (txtE x)) l':=by
 obtain⟨oa,cap,rfl⟩:=zJ3 hB.2.1;have hB2:=hB.2.2;refine zB [_,_,_] func106 rfl ntmps106 rfl ?_;have st:=St.init w [];clear st;obtain⟨w0,rfl⟩:∃ w0,w0=w:=⟨_,rfl⟩
 have st:=St.bxInit hB
 have hMn:∀ k∈bx::(Value.slice oa l.length cap).ownBlock.toList,n0≤k:=fun k hk=>by
  rcases Nat.lt_or_ge k n0 with h|h
  ·exact absurd hk (hB.notin h)
  ·exact h
 have hsame:∀ {w1:World},Chg (bx::(Value.slice oa l.length cap).ownBlock.toList) w0 w1→Same (·<n0) w0 w1:=fun c=>⟨c.size,fun k hk hs=>c.block k hs (hB.notin hk)⟩
 refine a2 ?_;refine zA3 (zT2 (l:=[_,_,_,_,_,_]) st rfl rfl rfl rfl ?_);intro b3 w hb3 st;refine a8 ?_;refine vif ?_ ?_;intro hc5
 have hl2:l.length+((txtE x).length+2)≤1099511627776:=by
  rw [hc5] at hl
  simp only [par,if_true,List.length_append,List.length_cons,List.length_nil] at hl
  omega
 refine a1 ?_;refine yl st 1 qA78 ?_;refine zA3 (zI4 (l:=[_]) st rfl rfl rfl rfl qU78 qZ5 rfl rfl rfl qV5 ?_);intro b7 w hb7 st;refine zA3 (gM3 (bytes:=1) (l:=[.int .u8 40]) (len':=(l++[40]).length) (ys:=zE2 (l++[40])) st 3 0 rfl rfl rfl rfl rfl rfl qU78 Tryz.info5 rfl rfl rfl rfl rfl rfl rfl (by unfold maxLen;(try simp only [List.length_append,List.length_cons,List.length_nil]);omega) (by(try simp only [List.length_append,List.length_cons,List.length_nil]);omega) (by simp only [List.length_append,List.length_cons,List.length_nil,Nat.zero_add]) (by simp [zE2]) ?_);intro oaQ capQ w st;refine zA3 (est st 2 qZ78 ?_);intro w st;refine a1 ?_
 rotate_left
 intro hc5
 have hl2:l.length+(txtE x).length≤1099511627776:=by
  rw [hc5] at hl
  simpa [par] using hl
 refine a1 ?_
 all_goals
  refine a3 ?_;(try replace st:=st.pick [1,2,3] rfl (by decide));refine yl st 1 qA78 ?_;refine yla st 0 [_,_,_,_,_,_] qA42 qZ42 ?_;refine zA3 (zA1 [_,_] rfl rfl call47 rfl (hrec _ _ _ _ (hV.kept (hsame st.chg)) (st.frnGet (i:=2) rfl) (st.frnN (i:=2) rfl hMn hn0) (Nat.le_trans hn0 st.chg.size) h0 (hsg.kept' st.chg (hB.notin h0)) (by(try simp only [List.length_append,List.length_cons,List.length_nil]);omega)) ?_);rintro r w ⟨l2,hp,hT⟩;have hT2:=hT.2.2.1
  try simp only [List.length_append,List.length_cons,List.length_nil] at hT2
  obtain⟨o2,c2,hv2⟩:=zJ3 hp.1;subst hv2;replace st:=st.frnP (i:=2) rfl hp;refine zA3 (est st 1 qZ78 ?_);intro w st;refine a7 ?_;refine vif ?_ ?_;intro hc12;refine a1 ?_;refine yl st 1 qA78 ?_;refine zA3 (zI4 (l:=[_]) st rfl rfl rfl rfl qU78 qZ5 rfl rfl rfl qV5 ?_);intro b14 w hb14 st;refine zA3 (gM3 (bytes:=1) (l:=[.int .u8 41]) (len':=(l2++[41]).length) (ys:=zE2 (l2++[41])) st 3 0 rfl rfl rfl rfl rfl rfl qU78 Tryz.info5 rfl rfl rfl rfl rfl rfl rfl (by unfold maxLen;(try simp only [List.length_append,List.length_cons,List.length_nil]);omega) (by(try simp only [List.length_append,List.length_cons,List.length_nil]);omega) (by simp only [List.length_append,List.length_cons,List.length_nil,Nat.zero_add]) (by simp [zE2]) ?_);intro oaQ capQ w st;refine zA3 (est st 2 qZ78 ?_);intro w st;refine a1 ?_
  rotate_left
  intro hc12;refine a1 ?_
  all_goals
   refine zD4 (.inr rfl) results106 ?_;refine⟨_,rfl,?_⟩
   first
    | (have h1 : b = true := by assumption
       have h2:b=false:=by assumption
       rw [h1] at h2;cases h2)
    | (have h1 : b = true := by assumption
       exact⟨rfl,_,l2++[41],st.bxDone (i:=2) (j:=3) rfl rfl rfl hB2.1 hB2.2 hn0,by rw [h1];exact((TxR.app l [40]).trans hT).trans (TxR.app l2 [41])⟩)
    | (have h1 : b = false := by assumption
       exact⟨rfl,_,l2,st.bxDone (i:=1) (j:=2) rfl rfl rfl hB2.1 hB2.2 hn0,by rw [h1];exact hT⟩)
theorem qN6 (k:Int) (w:World) (hs:Sig w):Ret Tryz.prog 107 [.int .u8 k] w fun v w'=>v=str (qA0 k)∧w'=w:=kU2 k w hs
set_option maxHeartbeats 4000000 in
theorem gW0:∀ (n:Nat) (e:Ex),szo e=n→∀ (d:Nat),zB9 e d=true→OkE e→∀ (v:Value) (l:List UInt8) (w:World) (ll:List Value),ExV w (·<n0) e ll→w.ownsRow 0 5 1 v l.length (zE2 l)→(∀ k,v.ownBlock=some k→n0≤k)→n0≤w.heap.size→0<n0→Sig w→l.length+(txtE e).length≤1099511627776→
      Ret Tryz.prog 47 [v,.agg ll.toArray] w fun r w'=>∃ l',RowP 5 v r l'.length (zE2 l') w w'∧TxR l (txtE e) l':=by
 intro n;refine Nat.strongRecOn n fun n ih=>?_
 intro e hn d hR hok v l w ll hV ho hvn hn0 h0 hsg hl;subst hn;obtain⟨oa,cap,rfl⟩:=zJ3 ho;obtain⟨oe,ce,rfl,hr⟩:=ExV.inv hV;refine zB [_,_] func47 rfl ntmps47 rfl ?_;have st:=St.init w [];clear st;obtain⟨w0,rfl⟩:∃ w0,w0=w:=⟨_,rfl⟩
 have st:=St.frnInit ho;have hMn:∀ k∈(Value.slice oa l.length cap).ownBlock.toList,n0≤k:=fun k hk=>hvn k (Option.mem_toList.1 hk)
 have hnot:∀ {k:Nat},k<n0→k∉(Value.slice oa l.length cap).ownBlock.toList:=fun hk h=>by have:=hMn _ h;omega
 have hsame:∀ {w1:World},Chg (Value.slice oa l.length cap).ownBlock.toList w0 w1→Same (·<n0) w0 w1:=fun c=>⟨c.size,fun k hk hs=>c.block k hs (hnot hk)⟩
 refine a2 ?_;refine zA3 (zT2 (l:=[_]) st rfl rfl rfl rfl ?_);intro b2 w hb2 st;refine zA3 (zT2 (l:=[_,_,_,_,_,_]) st rfl rfl rfl rfl ?_);intro b3 w hb3 st;refine a6 ?_;replace st:=st.pick [1,2,0] rfl (by decide);refine yl st 0 qA78 ?_;refine vy (zB1 rfl qU78) ?_;refine a3 ?_;refine vif ?_ ?_;intro hc11;(try simp only [dn] at hc11);refine a2 ?_;refine yl st 0 qA78 ?_;refine a5 ?_;refine vr1 st results47 ?_;exact⟨l,st.frnDone (i:=1) rfl,TxR.skip (by omega) _⟩;intro hc11;(try simp only [dn] at hc11);refine a4 ?_;refine vy (qT7 [] [_] rfl rfl) ?_;refine a6 ?_;refine vy (zC3 rfl qU42 rfl rfl qZ38 rfl) ?_;refine yl st 2 qA38 ?_;refine a9 ?_;refine vif ?_ ?_
 ·intro hc16;(try simp only [dn] at hc16);have hl1:=hl;rw [kM8 hc16] at hl1;refine ddr Tryz.mixed (.take 1 (.take 2 (.two 0 3 (.one 3 (.one 4 (.one 5 .done))) (.one 0 (.one 4 (.one 5 .done)))))) [.blk b3 (.cells (exL e oe ce).toArray 42 (0,0))] st ?_;clear st;intro w st hS;refine dfz hS 2 qU42 qZ2 ?_;refine dld hS 0 qA2 ?_;refine zU1 rfl rfl ?_ ?_;refine(zU6 rfl rfl (qE6 st 0 rfl qA78 rfl rfl) ?_);refine zB2 st.dr ?_;intro hS;refine zG rfl (zA1 [_] rfl rfl call76 rfl (qQ1 _ _ hok.wd) ?_);rintro _ w ⟨rfl,cw⟩;replace st:=st.call0 cw
  rotate_left
  refine(zA1 [_] rfl rfl call76 rfl (qQ1 _ _ hok.wd) ?_);rintro _ w ⟨rfl,cw⟩;replace st:=st.call0 cw;refine zB2 st.dr ?_;intro hS;refine zG rfl (zU6 rfl rfl (qE6 st 0 rfl qA78 rfl rfl) ?_)
  all_goals
   refine zB2 st.dr ?_;intro hS;refine zG rfl (qJ7 (len':=(l++shw e.wd).length) (ys:=zE2 (l++shw e.wd)) st 1 rfl rfl rfl rfl rfl qU78 qU9 Tryz.info5 rfl rfl rfl (List.length_append).symm (by simp [zE2]) (by simp only [List.length_append,List.length_cons,List.length_nil];omega) ?_);intro oaQ capQ w st;dsimp only [zA0] at st;refine zB2 st.dr ?_;intro hS;refine zG rfl (est st 0 qZ78 ?_);intro w st;dsimp only [zA0,wr] at st;refine zB2 st.dr ?_;intro hS;refine zV (zE0 (zA6 (sr ?_)));refine yl st 0 qA78 ?_;refine a4 ?_;refine vr1 st results47 ?_;exact⟨_,st.frnDone (i:=1) rfl,by rw [kM8 (e:=e) (by assumption)];exact TxR.app _ _⟩
 intro hc16;(try simp only [dn] at hc16);refine a6 ?_;refine vif ?_ ?_;intro hc23;(try simp only [dn] at hc23);have hl2:=hl;rw [kH7 hc23] at hl2;refine a1 ?_;refine yl st 0 qA78 ?_;refine yfz 3 qU42 qZ9 ?_;refine yl st 2 qA9 ?_;refine zA3 (qJ7 (len':=(l++e.nm).length) (ys:=zE2 (l++e.nm)) st 1 rfl rfl rfl rfl rfl qU78 qU9 Tryz.info5 rfl rfl rfl (List.length_append).symm (by simp [zE2]) (by simp only [List.length_append,List.length_cons,List.length_nil];omega) ?_);intro oaQ capQ w st;dsimp only [zA0] at st;refine zA3 (est st 0 qZ78 ?_);intro w st;dsimp only [zA0,wr] at st;refine a5 ?_;refine yl st 0 qA78 ?_;refine a4 ?_;refine vr1 st results47 ?_;exact⟨_,st.frnDone (i:=1) rfl,by rw [kH7 (e:=e) (by assumption)];exact TxR.app _ _⟩;intro hc23;(try simp only [dn] at hc23);refine a6 ?_;refine vif ?_ ?_
 ·intro hc29;(try simp only [dn] at hc29);have hk3:=hc29;obtain⟨x,hkx,d1,hR1⟩:=qX1 hR hk3;have hx:e.kids[0]?=some x:=by rw [hkx];rfl
  have hk1:e.kids.length=1:=by rw [hkx];rfl
  obtain⟨gb,go,rfl,hgS,hgl,hg⟩:=ExRow.at hr (by omega);obtain⟨o0,c0,hV0,hr0,hc0⟩:=hg 0 x hx;have hl3:=hl;rw [kN4 hk3 hkx,List.length_append] at hl3;refine a1 ?_;refine ddr Tryz.mixed (.take 1 (.take 2 (.two 0 3 (.one 3 (.one 4 (.one 5 .done))) (.one 0 (.one 4 (.one 5 .done)))))) [.blk b3 (.cells (exL e (some ⟨gb,go,none⟩) ce).toArray 42 (0,0))] st ?_;clear st;intro w st hS;refine dfz hS 1 qU42 qZ39 ?_;refine dld hS 0 qA39 ?_;refine zU1 rfl rfl ?_ ?_;refine(zU6 rfl rfl (qE6 st 0 rfl qA78 rfl rfl) ?_);refine zB2 st.dr ?_;intro hS;refine zG rfl (zA1 [_] rfl rfl call107 rfl (qN6 _ _ (hsg.kept' st.chg (hnot h0))) ?_);rintro _ _ ⟨rfl,rfl⟩
  rotate_left
  refine(zA1 [_] rfl rfl call107 rfl (qN6 _ _ (hsg.kept' st.chg (hnot h0))) ?_);rintro _ _ ⟨rfl,rfl⟩;refine zB2 st.dr ?_;intro hS;refine zG rfl (zU6 rfl rfl (qE6 st 0 rfl qA78 rfl rfl) ?_)
  all_goals
   refine zB2 st.dr ?_;intro hS;refine zG rfl (qJ7 (len':=(l++qA0 e.op).length) (ys:=zE2 (l++qA0 e.op)) st 1 rfl rfl rfl rfl rfl qU78 qU9 Tryz.info5 rfl rfl rfl (List.length_append).symm (by simp [zE2]) (by simp only [List.length_append,List.length_cons,List.length_nil];omega) ?_);intro oaQ capQ w st;dsimp only [zA0] at st;refine zB2 st.dr ?_;intro hS;refine zG rfl (est st 0 qZ78 ?_);intro w st;dsimp only [zA0,wr] at st;refine zB2 st.dr ?_;intro hS;refine zV (zA6 ?_);refine vdr Tryz.mixed [Yt 0,Yt 1,Yt 2,Yt 3,Yt 4,Yt 5,Yt 6,Yt 7,Yt 8,Yt 9,Yt 10,Nt 11] [.blk b3 (.cells (exL e (some ⟨gb,go,none⟩) ce).toArray 42 (0,0))] st ?_;clear st;intro w st hS;refine pm hS ?_;refine pfz hS 4 qU42 qZ40 ?_;refine pld hS 0 qA40 ?_;refine zA2 rfl rfl rfl hS (fun w st=>zM3 (k:=0) rfl rfl qU40 qZ42 rfl (by omega)) ?_;refine zA2 rfl rfl rfl hS (fun w st=>zE6 (exL x o0 c0) rfl qA42 qZ42 rfl (fun i v hi=>st.chg.cell (hc0 i v hi) (hnot hgS))) ?_;refine pfz hS 4 qU42 qZ40 ?_;refine pld hS 0 qA40 ?_;refine zA2 rfl rfl rfl hS (fun w st=>zM3 (k:=0) rfl rfl qU40 qZ42 rfl (by omega)) ?_;refine pf0 hS qU42 qZ38 ?_;refine zA2 rfl rfl rfl hS (fun w st=>zD8 rfl qA38 (st.chg.cell (hc0 0 _ rfl) (hnot hgS))) ?_;refine zA2 rfl rfl rfl hS (fun w st=>zK5 rfl rfl) ?_;refine zD0 rfl (zJ2 [_,_] rfl rfl rfl call106 rfl (gH6 x (fun v l w ll hV ho hn h1 h2 h3 h4=>ih (szo x) (by have:=zF2 hx;have:=zL1 e;omega) x rfl d1 hR1 (hok.kid hx) v l w ll hV ho hn h1 h2 h3 h4) _ _ _ b2 _ _ _ (hV0.kept (hsame st.chg)) (st.bxGet (n0:=n0) (by omega) (st.frnN (i:=1) rfl hMn hn0)) (Nat.le_trans hn0 st.chg.size) h0 (hsg.kept' st.chg (hnot h0)) (by simp only [List.length_append];omega)) ?_);rintro _ w ⟨rfl,vQ,lA,hp,hTA⟩;have hlQlA:=hTA.2.2.1;obtain⟨oQ,cQ,hvQ⟩:=zJ3 hp.1.2.1;subst hvQ;replace st:=(st.bxCall (.inr hb2) hp).1;refine zA9 st.dr ?_;intro hS;refine zC6 (zE0 (zA6 (sr ?_)));refine yl st 0 qA78 ?_;refine a4 ?_;refine vr1 st results47 ?_;exact⟨_,st.frnDone (i:=1) rfl,by rw [kN4 (e:=e) (by assumption) hkx];exact(TxR.app _ _).trans hTA⟩
 intro hc29;(try simp only [dn] at hc29);refine a6 ?_;refine vif ?_ ?_
 ·intro hc48;(try simp only [dn] at hc48);have hk4:=hc48;obtain⟨x,y,hkx,⟨d1,hR1⟩,d2,hR2⟩:=qW7 hR hk4;have hx:e.kids[0]?=some x:=by rw [hkx];rfl
  have hy:e.kids[1]?=some y:=by rw [hkx];rfl
  have hk2:e.kids.length=2:=by rw [hkx];rfl
  obtain⟨gb,go,rfl,hgS,hgl,hg⟩:=ExRow.at hr (by omega);obtain⟨o0,c0,hV0,hr0,hc0⟩:=hg 0 x hx;obtain⟨o1,c1,hV1,hr1,hc1⟩:=hg 1 y hy;have hl4:=hl;rw [kQ3 hk4 hkx] at hl4;simp only [List.length_append,List.length_cons,List.length_nil] at hl4;refine a2 ?_;refine yfz 1 qU42 qZ39 ?_;refine yl st 2 qA39 ?_;refine zA3 (zA1 [_] rfl rfl call105 rfl (zR3 _ _ (hsg.kept' st.chg (hnot h0))) ?_);rintro _ _ ⟨rfl,rfl⟩;refine a4 ?_;refine ddr Tryz.mixed (.take 0 (.take 1 (.take 2 (.take 3 (.take 4 (.take 5 (.take 6 (.take 7 (.two 8 9 (.one 9 (.one 10 (.one 11 .done))) (.one 8 (.one 10 (.one 11 .done)))))))))))) [.blk b3 (.cells (exL e (some ⟨gb,go,none⟩) ce).toArray 42 (0,0))] st ?_;clear st;intro w st hS;refine dfz hS 4 qU42 qZ40 ?_;refine dld hS 0 qA40 ?_;refine zD9 rfl rfl rfl hS (fun w st=>zM3 (k:=0) rfl rfl qU40 qZ42 rfl (by omega)) ?_;refine zD9 rfl rfl rfl hS (fun w st=>zE6 (exL x o0 c0) rfl qA42 qZ42 rfl (fun i v hi=>st.chg.cell (hc0 i v hi) (hnot hgS))) ?_;refine dfz hS 4 qU42 qZ40 ?_;refine dld hS 0 qA40 ?_;refine zD9 rfl rfl rfl hS (fun w st=>zM3 (k:=1) rfl rfl qU40 qZ42 rfl (by omega)) ?_;refine zD9 rfl rfl rfl hS (fun w st=>zE6 (exL y o1 c1) rfl qA42 qZ42 rfl (fun i v hi=>st.chg.cell (hc1 i v hi) (hnot hgS))) ?_;refine zU1 rfl rfl ?_ ?_;refine(zF8 (l:=[_,_,_,_,_,_]) st rfl rfl qV42 rfl ?_);intro b7 w hb7 st;refine zB2 st.dr ?_;intro hS;refine zG rfl (zF8 (l:=[_,_,_,_,_,_]) st rfl rfl qV42 rfl ?_);intro b8 w hb8 st
  rotate_left
  refine(zF8 (l:=[_,_,_,_,_,_]) st rfl rfl qV42 rfl ?_);intro b8 w hb8 st;refine zB2 st.dr ?_;intro hS;refine zG rfl (zF8 (l:=[_,_,_,_,_,_]) st rfl rfl qV42 rfl ?_);intro b7 w hb7 st
  all_goals
   refine zB2 st.dr ?_;intro hS
   first
   | refine zG rfl (zC4 st 0 [_,_,_,_,_,_] qZ42 ?_)
   | refine zG rfl (zC4 st 1 [_,_,_,_,_,_] qZ42 ?_)
   intro w st;dsimp only [zA0,wr] at st;refine zB2 st.dr ?_;intro hS
   first
   | refine zG rfl (zC4 st 0 [_,_,_,_,_,_] qZ42 ?_)
   | refine zG rfl (zC4 st 1 [_,_,_,_,_,_] qZ42 ?_)
   intro w st;dsimp only [zA0,wr] at st;refine zB2 st.dr ?_;intro hS;refine zV (zA6 (zC5 ?_));replace st:=(by first|exact st.pick [2,3,1,0,4] rfl (by decide)|exact st.pick [2,3,0,1,4] rfl (by decide):St w0 (Value.slice oa l.length cap).ownBlock.toList [_,_,.blk b7 (.cells (exL x o0 c0).toArray 42 (0,0)),.blk b8 (.cells (exL y o1 c1).toArray 42 (0,0)),.blk b3 (.cells (exL e (some ⟨gb,go,none⟩) ce).toArray 42 (0,0))] _)
   refine vdr Tryz.mixed [Yt 0,Yt 1,Yt 2,Yt 3,Yt 4,Yt 5,Yt 6,Yt 7,Yt 9,Nt 8,Yt 10,Yt 11,Nt 12] [.blk b7 (.cells (exL x o0 c0).toArray 42 (0,0)),.blk b8 (.cells (exL y o1 c1).toArray 42 (0,0)),.blk b3 (.cells (exL e (some ⟨gb,go,none⟩) ce).toArray 42 (0,0))] st ?_;clear st;intro w st hS;refine pm hS ?_;refine zA2 rfl rfl rfl hS (fun w st=>zS7 (vs:=[_,_,_,_,_,_]) st 0 rfl qA42 qZ42 rfl rfl) ?_;refine pf0 hS qU42 qZ38 ?_;refine pld hS 0 qA38 ?_;refine zA2 rfl rfl rfl hS (fun w st=>zK5 rfl rfl) ?_;refine zL4 rfl rfl rfl hS rfl ?_ ?_;intro hg66;(try simp only [dn] at hg66);refine pfz hS 1 qU42 qZ39 ?_;refine pld hS 0 qA39 ?_;refine pm hS ?_;refine zD0 rfl (zA1 [_] rfl rfl call105 rfl (zR3 _ _ (hsg.kept' st.chg (hnot h0))) ?_);rintro _ _ ⟨rfl,rfl⟩;refine zA9 st.dr ?_;intro hS;refine zA2 rfl rfl rfl hS (fun w st=>zM5 rfl rfl) ?_;refine zA2 rfl rfl rfl hS (fun w st=>zJ0 rfl rfl) ?_
   rotate_left
   intro hg66;(try simp only [dn] at hg66);(iterate 3 refine zF5 rfl rfl rfl hS ?_);refine zD0 rfl (zO6 rfl rfl (zA9 hS (fun hS=>?_)));refine zF5 rfl rfl rfl hS ?_;refine zA2 rfl rfl rfl hS (fun w st=>zN rfl rfl) ?_
   all_goals
    refine zD0 rfl (zJ2 [_,_] rfl rfl rfl call106 rfl (gH6 x (fun v l w ll hV ho hn h1 h2 h3 h4=>ih (szo x) (by have:=zF2 hx;have:=zL1 e;omega) x rfl d1 hR1 (hok.kid hx) v l w ll hV ho hn h1 h2 h3 h4) _ _ _ b2 _ _ _ (hV0.kept (hsame st.chg)) (st.bxGet (n0:=n0) (by omega) (st.frnN (i:=1) rfl hMn hn0)) (Nat.le_trans hn0 st.chg.size) h0 (hsg.kept' st.chg (hnot h0)) (by first|(rw [← jA (op:=e.op) (by assumption)];omega)|(rw [← gQ4 (op:=e.op) (b:=false) (by assumption)];omega))) ?_);rintro _ w ⟨rfl,vQ,lA,hp,hTA⟩;have hlQlA:=hTA.2.2.1;obtain⟨oQ,cQ,hvQ⟩:=zJ3 hp.1.2.1;subst hvQ;replace st:=(st.bxCall (.inr hb2) hp).1
    have hA:TxR l (par (inn e.op x false) (txtE x)) lA:=by
     first|(rw [jA (by assumption)];exact hTA)|(rw [gQ4 (by assumption)];exact hTA)
    have hA3:=hA.2.2.1;have hso:=qM3 e.op;refine zA9 st.dr ?_;intro hS;refine zC6 (zA6 (sr ?_));refine yl st 0 qA78 ?_;refine zA3 (zI4 (l:=[_]) st rfl rfl rfl rfl qU78 qZ5 rfl rfl rfl qV5 ?_);intro b75 w hb75 st;refine zA3 (gM3 (bytes:=1) (l:=[.int .u8 32]) (len':=(lA++[32]).length) (ys:=zE2 (lA++[32])) st 2 0 rfl rfl rfl rfl rfl rfl qU78 Tryz.info5 rfl rfl rfl rfl rfl rfl rfl (by unfold maxLen;(try simp only [List.length_append,List.length_cons,List.length_nil]);omega) (by(try simp only [List.length_append,List.length_cons,List.length_nil]);omega) (by simp only [List.length_append,List.length_cons,List.length_nil,Nat.zero_add]) (by simp [zE2]) ?_);intro oaQ capQ w st;dsimp only [zA0] at st;refine zA3 (est st 1 qZ78 ?_);intro w st;dsimp only [zA0,wr] at st;refine a3 ?_;replace st:=st.pick [1,2,3,4,5] rfl (by decide);refine ddr Tryz.mixed (.take 1 (.take 2 (.two 0 3 (.one 3 (.one 4 (.one 5 .done))) (.one 0 (.one 4 (.one 5 .done)))))) [.blk b7 (.cells (exL x o0 c0).toArray 42 (0,0)),.blk b8 (.cells (exL y o1 c1).toArray 42 (0,0)),.blk b3 (.cells (exL e (some ⟨gb,go,none⟩) ce).toArray 42 (0,0))] st ?_;clear st;intro w st hS;refine dfz hS 1 qU42 qZ39 ?_;refine dld hS 2 qA39 ?_;refine zU1 rfl rfl ?_ ?_;refine(zU6 rfl rfl (qE6 st 0 rfl qA78 rfl rfl) ?_);refine zB2 st.dr ?_;intro hS;refine zG rfl (zA1 [_] rfl rfl call107 rfl (qN6 _ _ (hsg.kept' st.chg (hnot h0))) ?_);rintro _ _ ⟨rfl,rfl⟩
    rotate_left
    refine(zA1 [_] rfl rfl call107 rfl (qN6 _ _ (hsg.kept' st.chg (hnot h0))) ?_);rintro _ _ ⟨rfl,rfl⟩;refine zB2 st.dr ?_;intro hS;refine zG rfl (zU6 rfl rfl (qE6 st 0 rfl qA78 rfl rfl) ?_)
    all_goals
     refine zB2 st.dr ?_;intro hS;refine zG rfl (qJ7 (len':=((lA++[32])++qA0 e.op).length) (ys:=zE2 ((lA++[32])++qA0 e.op)) st 1 rfl rfl rfl rfl rfl qU78 qU9 Tryz.info5 rfl rfl rfl (List.length_append).symm (by simp [zE2]) (by simp only [List.length_append,List.length_cons,List.length_nil];omega) ?_);intro oaQ capQ w st;dsimp only [zA0] at st;refine zB2 st.dr ?_;intro hS;refine zG rfl (est st 0 qZ78 ?_);intro w st;dsimp only [zA0,wr] at st;refine zB2 st.dr ?_;intro hS;refine zV (zA6 (sr ?_));refine yl st 0 qA78 ?_;refine zA3 (zI4 (l:=[_]) st rfl rfl rfl rfl qU78 qZ5 rfl rfl rfl qV5 ?_);intro b83 w hb83 st;refine zA3 (gM3 (bytes:=1) (l:=[.int .u8 32]) (len':=((lA++[32]++qA0 e.op)++[32]).length) (ys:=zE2 ((lA++[32]++qA0 e.op)++[32])) st 2 0 rfl rfl rfl rfl rfl rfl qU78 Tryz.info5 rfl rfl rfl rfl rfl rfl rfl (by unfold maxLen;(try simp only [List.length_append,List.length_cons,List.length_nil]);omega) (by(try simp only [List.length_append,List.length_cons,List.length_nil]);omega) (by simp only [List.length_append,List.length_cons,List.length_nil,Nat.zero_add]) (by simp [zE2]) ?_);intro oaQ capQ w st;dsimp only [zA0] at st;refine zA3 (est st 1 qZ78 ?_);intro w st;dsimp only [zA0,wr] at st;refine a2 ?_;replace st:=st.pick [1,2,3,4,5] rfl (by decide);refine vdr Tryz.mixed [Yt 0,Yt 1,Yt 2,Yt 3,Yt 4,Yt 5,Yt 6,Yt 7,Yt 9,Nt 8,Yt 10,Yt 11,Nt 12] [.blk b7 (.cells (exL x o0 c0).toArray 42 (0,0)),.blk b8 (.cells (exL y o1 c1).toArray 42 (0,0)),.blk b3 (.cells (exL e (some ⟨gb,go,none⟩) ce).toArray 42 (0,0))] st ?_;clear st;intro w st hS;refine pm hS ?_;refine zA2 rfl rfl rfl hS (fun w st=>zS7 (vs:=[_,_,_,_,_,_]) st 1 rfl qA42 qZ42 rfl rfl) ?_;refine pf0 hS qU42 qZ38 ?_;refine pld hS 1 qA38 ?_;refine zA2 rfl rfl rfl hS (fun w st=>zK5 rfl rfl) ?_;refine zL4 rfl rfl rfl hS rfl ?_ ?_;intro hg90;(try simp only [dn] at hg90);refine pfz hS 1 qU42 qZ39 ?_;refine pld hS 1 qA39 ?_;refine pm hS ?_;refine zD0 rfl (zA1 [_] rfl rfl call105 rfl (zR3 _ _ (hsg.kept' st.chg (hnot h0))) ?_);rintro _ _ ⟨rfl,rfl⟩;refine zA9 st.dr ?_;intro hS;refine zA2 rfl rfl rfl hS (fun w st=>zT9 rfl rfl) ?_;refine zA2 rfl rfl rfl hS (fun w st=>zJ0 rfl rfl) ?_
     rotate_left
     intro hg90;(try simp only [dn] at hg90);(iterate 3 refine zF5 rfl rfl rfl hS ?_);refine zD0 rfl (zO6 rfl rfl (zA9 hS (fun hS=>?_)));refine zF5 rfl rfl rfl hS ?_;refine zA2 rfl rfl rfl hS (fun w st=>zN rfl rfl) ?_
     all_goals
      refine zD0 rfl (zJ2 [_,_] rfl rfl rfl call106 rfl (gH6 y (fun v l w ll hV ho hn h1 h2 h3 h4=>ih (szo y) (by have:=zF2 hy;have:=zL1 e;omega) y rfl d2 hR2 (hok.kid hy) v l w ll hV ho hn h1 h2 h3 h4) _ _ _ b2 _ _ _ (hV1.kept (hsame st.chg)) (st.bxGet (n0:=n0) (by omega) (st.frnN (i:=1) rfl hMn hn0)) (Nat.le_trans hn0 st.chg.size) h0 (hsg.kept' st.chg (hnot h0)) (by simp only [List.length_append,List.length_cons,List.length_nil];first|(rw [← kY6 (op:=e.op) (by assumption)];omega)|(rw [← gQ4 (op:=e.op) (b:=true) (by assumption)];omega))) ?_);rintro _ w ⟨rfl,vQ,lB,hp,hTB⟩;have hlQlB:=hTB.2.2.1;obtain⟨oQ,cQ,hvQ⟩:=zJ3 hp.1.2.1;subst hvQ;replace st:=(st.bxCall (.inr hb2) hp).1;refine zA9 st.dr ?_;intro hS;refine zC6 (zE0 (zA6 (sr ?_)));refine yl st 0 qA78 ?_;refine a4 ?_;refine vr1 st results47 ?_
      first
       | (refine ⟨_, st.frnDone (i := 1) rfl, ?_⟩
          have hB:TxR (lA++[32]++qA0 e.op++[32]) (par (inn e.op y true) (txtE y)) lB:=by
            first|(rw [kY6 (by assumption)];exact hTB)|(rw [gQ4 (by assumption)];exact hTB)
          rw [kQ3 (e:=e) (by assumption) hkx]
          have:=(((hA.trans (TxR.app lA [32])).trans (TxR.app _ (qA0 e.op))).trans (TxR.app _ [32])).trans hB
          simpa only [List.append_assoc] using this)
 intro hc48;(try simp only [dn] at hc48);refine a5 ?_;refine yl st 0 qA78 ?_;refine a4 ?_;refine vr1 st results47 ?_
 (exfalso;rcases qW2 hR with h|h|h|h <;> contradiction)
end
section
variable {n0:Nat}
theorem qN2 (es:List Ex) (x:Ex) (hx:es[0]?=some x) (d:Nat) (hR:zB9 x d=true) (hok:OkE x) (oa:Option Addr) (cap:Nat) (w:World) (hr:ExRow w (·<n0) oa es) (hn0:n0≤w.heap.size) (h0:0<n0) (hsg:Sig w) (hl:(txtE x).length≤1099511627776) :
    Ret Tryz.prog 156 [.slice oa es.length cap] w fun v w'=>∃ r,v=str r∧TxR [] (txtE x) r∧Chg [] w w':=by
 refine zB [_] func156 rfl ntmps156 rfl ?_;have st:=St.init w [];obtain⟨w0,rfl⟩:∃ w0,w0=w:=⟨_,rfl⟩
 have hlen:0<es.length:=(List.getElem?_eq_some_iff.1 hx).1;obtain⟨gb,go,rfl,hgS,hgl,hg⟩:=ExRow.at hr hlen;obtain⟨o0,c0,hV0,hr0,hc0⟩:=hg 0 x hx;refine a8 ?_;refine vy (zM3 (k:=0) rfl rfl qU40 qZ42 rfl (by omega)) ?_;refine vy (zE6 (exL x o0 c0) rfl qA42 qZ42 rfl (fun i v hi=>st.chg.cell (hc0 i v hi) (by simp))) ?_;refine zA3 (zA1 [_,_] rfl rfl call47 rfl (gW0 _ x rfl d hR hok (.slice none 0 0) [] _ _ (hV0.kept st.sm) (World.ownsRow_nil _ 0 5 1) (fun k hk=>by simp [Value.ownBlock] at hk) (Nat.le_trans hn0 st.chg.size) h0 (hsg.kept st.chg) (by simpa using hl)) ?_);rintro r w ⟨l2,hp,hT⟩;obtain⟨o2,c2,hv2⟩:=zJ3 hp.1;subst hv2;replace st:=st.call0 (by simpa [Value.ownBlock] using hp.2.1);refine vy (qY5 rfl (p:=l2) (gA hp.1) rfl qU78 qU5 qU9) ?_;refine a4 ?_;refine vr1 st results156 ?_;exact⟨l2,rfl,hT,st.chg⟩
end
end Go.Proofs.YtnmhlpnapgojjaaGreatDoor
