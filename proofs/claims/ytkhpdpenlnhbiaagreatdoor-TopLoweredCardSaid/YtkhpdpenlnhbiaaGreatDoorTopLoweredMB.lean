/- A part of the proof: contracts of functions and plain laws; each theorem says its own conditions. -/
import Derived.Test.YtkhpdpenlnhbiaaGreatDoorTopLoweredK7
import Derived.Test.YtkhpdpenlnhbiaaGreatDoorTopLoweredMA
import Derived.Test.YtkhpdpenlnhbiaaGreatDoorTopLoweredK18
namespace Go.Proofs.YtkhpdpenlnhbiaaGreatDoor
open Go.RowKit Sx LexS ParS _root_.Go.Proofs.Tryz
set_option linter.unusedVariables false
set_option linter.unusedSimpArgs false
def relW (b:Bool) (g:Gn):Bool:=decide (g.k=4) || (decide (g.k=2) && !b) || (decide (g.k=3) && b)
def FndP (b:Bool) (N:List Gn) (l:List Nat) (F:List Bool):Prop:=F.length=l.length∧∀ (i t:Nat),l[i]?=some t→(F[i]?=some true↔∃ g∈N,relW b g=true∧g.th=(t:Int))
def FndI (b:Bool) (N:List Gn) (x:Gn) (l:List Nat) (i:Nat) (is:Bool) (F:List Bool):Prop:=F.length=l.length∧(∀ (q t:Nat),l[q]?=some t→(F[q]?=some true↔(∃ g∈N,relW b g=true∧g.th=(t:Int))∨(q<i∧x.th=(t:Int))))∧(is=true↔∃ t∈l.take i,x.th=((t:Nat):Int))
theorem FndP.skip {b:Bool} {N:List Gn} {x:Gn} {l:List Nat} {F:List Bool} (h:FndP b N l F) (hx:relW b x=false):FndP b (N++[x]) l F:=by
 refine⟨h.1,fun i t hi=>(h.2 i t hi).trans ?_⟩
 constructor
 ·rintro ⟨g,hg,r⟩
  exact⟨g,List.mem_append.2 (.inl hg),r⟩
 ·rintro ⟨g,hg,r⟩
  rcases List.mem_append.1 hg with hg|hg
  ·exact⟨g,hg,r⟩
  ·simp only [List.mem_singleton] at hg
   subst hg
   rw [hx] at r
   cases r.1
theorem FndP.start {b:Bool} {N:List Gn} {x:Gn} {l:List Nat} {F:List Bool} (h:FndP b N l F):FndI b N x l 0 false F:=⟨h.1,fun q t hq=>(h.2 q t hq).trans (by simp),by simp⟩
theorem FndI.done {b:Bool} {N:List Gn} {x:Gn} {l:List Nat} {F:List Bool} {is:Bool} (h:FndI b N x l l.length is F) (hx:relW b x=true):FndP b (N++[x]) l F:=by
 refine⟨h.1,fun i t hi=>(h.2.1 i t hi).trans ?_⟩
 have hil:=(List.getElem?_eq_some_iff.1 hi).1
 constructor
 ·rintro (⟨g,hg,r⟩|⟨-,r⟩)
  ·exact⟨g,List.mem_append.2 (.inl hg),r⟩
  ·exact⟨x,List.mem_append.2 (.inr (.head _)),hx,r⟩
 ·rintro ⟨g,hg,r⟩
  rcases List.mem_append.1 hg with hg|hg
  ·exact .inl ⟨g,hg,r⟩
  ·simp only [List.mem_singleton] at hg
   subst hg
   exact .inr ⟨hil,r.2⟩
theorem FndI.hit {b:Bool} {N:List Gn} {x:Gn} {l:List Nat} {F:List Bool} {is:Bool} {i t:Nat} (h:FndI b N x l i is F) (hi:l[i]?=some t) (e:(t:Int)=x.th):FndI b N x l (i+1) true (F.set i true):=by
 have hil:=(List.getElem?_eq_some_iff.1 hi).1
 refine⟨by rw [List.length_set];exact h.1,fun q u hq=>?_,?_⟩
 ·by_cases hqi:i=q
  ·subst hqi
   have:u=t:=by rw [hi] at hq;exact(Option.some.inj hq).symm
   subst this
   rw [List.getElem?_set_self (by rw [h.1];exact hil)]
   exact⟨fun _=>.inr ⟨by omega,e.symm⟩,fun _=>rfl⟩
  ·rw [List.getElem?_set_ne hqi]
   refine(h.2.1 q u hq).trans ?_
   constructor
   ·rintro (r|⟨r1,r2⟩)
    ·exact .inl r
    ·exact .inr ⟨by omega,r2⟩
   ·rintro (r|⟨r1,r2⟩)
    ·exact .inl r
    ·exact .inr ⟨by omega,r2⟩
 simp only [true_iff]
 exact⟨t,by rw [take_one hi];exact List.mem_append.2 (.inr (.head _)),e.symm⟩
theorem FndI.miss {b:Bool} {N:List Gn} {x:Gn} {l:List Nat} {F:List Bool} {is:Bool} {i t:Nat} (h:FndI b N x l i is F) (hi:l[i]?=some t) (e:¬ (t:Int)=x.th):FndI b N x l (i+1) is F:=by
 refine⟨h.1,fun q u hq=>(h.2.1 q u hq).trans ?_,h.2.2.trans ?_⟩
 ·constructor
  ·rintro (r|⟨r1,r2⟩)
   ·exact .inl r
   ·exact .inr ⟨by omega,r2⟩
  ·rintro (r|⟨r1,r2⟩)
   ·exact .inl r
   ·by_cases hqi:q=i
    ·subst hqi
     have:u=t:=by rw [hi] at hq;exact(Option.some.inj hq).symm
     subst this
     exact absurd r2.symm e
    ·exact .inr ⟨by omega,r2⟩
 rw [take_one hi]
 constructor
 ·rintro ⟨u,hu,r⟩
  exact⟨u,List.mem_append.2 (.inl hu),r⟩
 ·rintro ⟨u,hu,r⟩
  rcases List.mem_append.1 hu with hu|hu
  ·exact⟨u,hu,r⟩
  ·simp only [List.mem_singleton] at hu
   subst hu
   exact absurd r.symm e
set_option maxHeartbeats 2000000 in
theorem tnamed_any (b:Bool) (T:Nat→Prop) (lc s zn c:Nat) (on oa:Option Addr) (nm:Wd) (N:List Gn) (l:List Nat) (hNl:N.length≤4096) (hl:l.length≤64) (ha:∀ g∈N,relW b g=true→∃ t∈l,g.th=((t:Nat):Int)) (hb:∀ t∈l,∃ g∈N,relW b g=true∧g.th=((t:Nat):Int)) (w:World) (hN:NdRow w T on N) (hlo:w.ownsRow 0 3 1 (.slice oa l.length c) l.length (nV l)) :
    Ret Tryz.prog 10 [.agg [str nm,.int .i64 (lc:Int),.int .i64 (s:Int),.slice on N.length zn].toArray,.slice oa l.length c,.bool b] w fun v w'=>v=.bool true∧Chg [] w w':=by
 refine ret_of [_,_,_] func10 rfl ntmps10 rfl ?_
 have st:=St.init w []
 obtain⟨w0,rfl⟩:∃ w0,w0=w:=⟨_,rfl⟩
 refine sr ?_
 refine vc_e (e_bx (l:=[_,_,_,_]) st rfl rfl rfl rfl ?_)
 intro b3 w hb3 st
 refine ya ?_
 refine et (vk3 1 2 3 (sr ?_))
 refine ym ?_
 refine vy (y_lensl rfl underlying44) ?_
 refine vc_e (e_mkN (z:=.bool false) st rfl rfl rfl rfl underlying90 Tryz.info4 rfl rfl rfl (by omega) (by show 1*_≤_;omega) (by unfold maxLen;omega) ?_)
 intro b17 w hb17 st
 replace st:=st.ownBlk
 rw [bV_repl] at st
 refine ya ?_
 refine et (vk4 1 2 3 7 (vc_seq (sr ?_)))
 refine yfz 3 underlying43 sizeOf41 ?_
 refine yl st 1 isAgg41 ?_
 refine vy (y_lensl rfl underlying41) ?_
 refine ym ?_
 refine et (vk6 1 2 7 19 20 21 (vc_block ?_))
 refine vc_loop (w0:=w0) (M:=[]) (fun (y:Nat×List Bool)=>[(1,.slice oa l.length c),(2,.bool b),(7,.slice (some ⟨b17,0,none⟩) l.length l.length),(19,.slice on N.length zn),(20,.int .i64 (N.length:Int)),(21,.int .i64 (y.1:Int))]) (fun y=>[.blk b17 (.cells (bV y.2).toArray 4 (0,0)),.blk b3 (.cells [str nm,.int .i64 (lc:Int),.int .i64 (s:Int),.slice on N.length zn].toArray 43 (0,0))]) (fun y w'=>y.1≤N.length∧FndP b (N.take y.1) l y.2) (fun y=>N.length - y.1) (0,List.replicate l.length false) ⟨rfl,rfl,rfl,rfl,rfl,rfl,trivial⟩ st ⟨by simp,by simp,fun i t hi=>by simp [List.getElem?_replicate]⟩ ?_
 clear st
 rintro ⟨j,F0⟩ w ⟨hj,hF⟩ st
 dsimp only at hj hF st ⊢
 refine sr ?_
 refine vy (y_lss rfl rfl) ?_
 refine et (vk7 1 2 7 19 20 21 22 (vc_seq ?_))
 refine vif ?_ ?_
 ·intro hc22
  try simp only [dn] at hc22
  have hj2:j<N.length:=by omega
  obtain⟨x,hx⟩:∃ x,N[j]?=some x:=⟨_,List.getElem?_eq_getElem hj2⟩
  obtain⟨nb,off,rfl,-,-,hcc⟩:=hN.at (by omega)
  have hxm:=List.mem_of_getElem? hx
  have htk:=take_one hx
  refine kt (vk6 1 2 7 19 20 21 (vc_seq (vc_block (sr ?_))))
  refine vy (y_ia (k:=j) rfl rfl underlying41 sizeOf83 rfl (by omega)) ?_
  refine vy (y_ldca (gnC x j) rfl isAgg83 sizeOf83 rfl (fun q v hq=>st.chg.cell (hcc j x hx q v hq) (by simp))) ?_
  refine vc_e (e_al (l:=[_,_,_,_,_,_,_,_,_,_,_,_,_]) st rfl rfl zeroValue83 rfl ?_)
  intro b9 w hb9 st
  refine vc_e (ests st 0 [_,_,_,_,_,_,_,_,_,_,_,_,_] sizeOf83 ?_)
  intro w st;dsimp only [setNth,wr] at st
  refine et (vk7 1 2 7 9 19 20 21 ?_)
  refine vc_cut (w0:=w0) (M:=[]) (fun (_:Unit)=>[(1,.slice oa l.length c),(2,.bool b),(7,.slice (some ⟨b17,0,none⟩) l.length l.length),(9,.pointer (some ⟨b9,0,none⟩)),(19,.slice (some ⟨nb,off,none⟩) N.length zn),(20,.int .i64 (N.length:Int)),(21,.int .i64 (j:Int))]) (fun _=>[.blk b9 (.cells (gnC x j).toArray 83 (0,0)),.blk b17 (.cells (bV F0).toArray 4 (0,0)),.blk b3 (.cells [str nm,.int .i64 (lc:Int),.int .i64 (s:Int),.slice (some ⟨nb,off,none⟩) N.length zn].toArray 43 (0,0))]) (fun _ w=>relW b x=true) ?_ ?_
  ·refine vc_seq ?_
   refine vc_region ?_
   refine vy (y_fa0 rfl underlying83 rfl rfl sizeOf79 rfl) ?_
   refine yl st 0 isAgg79 ?_
   refine vy (y_nei rfl rfl) ?_
   refine vmb ?_ ?_
   ·intro hg28
    try simp only [dn] at hg28
    refine vy (y_fa0 rfl underlying83 rfl rfl sizeOf79 rfl) ?_
    refine yl st 0 isAgg79 ?_
    refine vy (y_nei rfl rfl) ?_
    refine vmb ?_ ?_
    ·intro hg32
     try simp only [dn] at hg32
     refine vsk ?_
     iterate 2 refine ypt ?_
     refine ym ?_
     refine vy (y_fa0 rfl underlying83 rfl rfl sizeOf79 rfl) ?_
     refine yl st 0 isAgg79 ?_
     refine vy (y_nei rfl rfl) ?_
     refine vmb ?_ ?_
     ·intro hg40
      try simp only [dn] at hg40
      iterate 2 refine vsk ?_
      iterate 2 refine ypt ?_
      refine et (vk8 1 2 7 9 19 20 21 44 ?_)
      refine vc_ift rfl ?_
      refine vc_exit (vq_then_exit (vq_block_exit (vq_then (vk6 1 2 7 19 20 21 (vc_region ?_)))))
      refine vy (y_add rfl rfl (by omega:_=((j+1:Nat):Int)) (by omega) (by omega)) ?_
      refine ym ?_
      refine vc_end ?_
      refine vq_again (j+1,F0)  ⟨rfl,rfl,rfl,rfl,rfl,rfl,trivial⟩ (st.drop (.cons _ (List.Sublist.refl _))) ?_ ?_
      ·refine⟨by dsimp only;omega,?_⟩
       dsimp only
       rw [htk]
       exact hF.skip (by unfold relW;cases b <;> simp_all <;> omega)
      dsimp only;omega
     intro hg40
     try simp only [dn] at hg40
     refine ym ?_
     refine vy (y_not rfl) ?_
     refine ypf ?_
     refine ypt ?_
     refine et (vk8 1 2 7 9 19 20 21 44 ?_)
     refine vif ?_ ?_
     ·intro hc44
      try simp only [dn] at hc44
      refine vc_exit (vq_then_exit (vq_block_exit (vq_then (vk6 1 2 7 19 20 21 (vc_region ?_)))))
      refine vy (y_add rfl rfl (by omega:_=((j+1:Nat):Int)) (by omega) (by omega)) ?_
      refine ym ?_
      refine vc_end ?_
      refine vq_again (j+1,F0)  ⟨rfl,rfl,rfl,rfl,rfl,rfl,trivial⟩ (st.drop (.cons _ (List.Sublist.refl _))) ?_ ?_
      ·refine⟨by dsimp only;omega,?_⟩
       dsimp only
       rw [htk]
       exact hF.skip (by unfold relW;cases b <;> simp_all <;> omega)
      dsimp only;omega
     intro hc44
     try simp only [dn] at hc44
     refine vc_code_skip ?_
     refine vq_meet () ⟨rfl,rfl,rfl,rfl,rfl,rfl,rfl,trivial⟩ st ?_
     ·unfold relW
      cases b <;> simp_all <;> omega
    intro hg32
    try simp only [dn] at hg32
    refine ym ?_
    refine ypf ?_
    refine ypt ?_
    refine vmb ?_ ?_
    ·intro hg36
     try simp only [dn] at hg36
     refine vy (y_fa0 rfl underlying83 rfl rfl sizeOf79 rfl) ?_
     refine yl st 0 isAgg79 ?_
     refine vy (y_nei rfl rfl) ?_
     refine vmb ?_ ?_
     ·intro hg40
      try simp only [dn] at hg40
      iterate 2 refine vsk ?_
      iterate 2 refine ypt ?_
      refine et (vk8 1 2 7 9 19 20 21 44 ?_)
      refine vc_ift rfl ?_
      refine vc_exit (vq_then_exit (vq_block_exit (vq_then (vk6 1 2 7 19 20 21 (vc_region ?_)))))
      refine vy (y_add rfl rfl (by omega:_=((j+1:Nat):Int)) (by omega) (by omega)) ?_
      refine ym ?_
      refine vc_end ?_
      refine vq_again (j+1,F0)  ⟨rfl,rfl,rfl,rfl,rfl,rfl,trivial⟩ (st.drop (.cons _ (List.Sublist.refl _))) ?_ ?_
      ·refine⟨by dsimp only;omega,?_⟩
       dsimp only
       rw [htk]
       exact hF.skip (by unfold relW;cases b <;> simp_all <;> omega)
      dsimp only;omega
     intro hg40
     try simp only [dn] at hg40
     refine ym ?_
     refine vy (y_not rfl) ?_
     refine ypf ?_
     refine ypt ?_
     refine et (vk8 1 2 7 9 19 20 21 44 ?_)
     refine vif ?_ ?_
     ·intro hc44
      try simp only [dn] at hc44
      refine vc_exit (vq_then_exit (vq_block_exit (vq_then (vk6 1 2 7 19 20 21 (vc_region ?_)))))
      refine vy (y_add rfl rfl (by omega:_=((j+1:Nat):Int)) (by omega) (by omega)) ?_
      refine ym ?_
      refine vc_end ?_
      refine vq_again (j+1,F0)  ⟨rfl,rfl,rfl,rfl,rfl,rfl,trivial⟩ (st.drop (.cons _ (List.Sublist.refl _))) ?_ ?_
      ·refine⟨by dsimp only;omega,?_⟩
       dsimp only
       rw [htk]
       exact hF.skip (by unfold relW;cases b <;> simp_all <;> omega)
      dsimp only;omega
     intro hc44
     try simp only [dn] at hc44
     refine vc_code_skip ?_
     refine vq_meet () ⟨rfl,rfl,rfl,rfl,rfl,rfl,rfl,trivial⟩ st ?_
     ·unfold relW
      cases b <;> simp_all <;> omega
    intro hg36
    try simp only [dn] at hg36
    iterate 7 refine vsk ?_
    refine ypf ?_
    refine et (vk8 1 2 7 9 19 20 21 44 ?_)
    refine vc_iff rfl ?_
    refine vc_code_skip ?_
    refine vq_meet () ⟨rfl,rfl,rfl,rfl,rfl,rfl,rfl,trivial⟩ st ?_
    ·unfold relW
     cases b <;> simp_all <;> omega
   intro hg28
   try simp only [dn] at hg28
   iterate 6 refine vsk ?_
   refine ypf ?_
   refine ym ?_
   iterate 7 refine vsk ?_
   refine ypf ?_
   refine et (vk8 1 2 7 9 19 20 21 44 ?_)
   refine vc_iff rfl ?_
   refine vc_code_skip ?_
   refine vq_meet () ⟨rfl,rfl,rfl,rfl,rfl,rfl,rfl,trivial⟩ st ?_
   ·unfold relW
    cases b <;> simp_all <;> omega
  clear st
  rintro ⟨⟩ w hrel st
  refine sr ?_
  refine ya ?_
  refine et (vk8 1 2 7 9 10 19 20 21 (vc_seq (sr ?_)))
  refine ym ?_
  refine vy (y_lensl rfl underlying44) ?_
  refine ym ?_
  refine et (vc_keep [(1,_),(2,_),(7,_),(9,_),(10,_),(19,_),(20,_),(21,_),(45,_),(46,_),(47,_)] ⟨rfl,rfl,rfl,rfl,rfl,rfl,rfl,rfl,rfl,rfl,rfl,trivial⟩ (vc_block ?_))
  refine vc_loop (w0:=w0) (M:=[]) (fun (y:Nat×Bool×List Bool)=>[(1,.slice oa l.length c),(2,.bool b),(7,.slice (some ⟨b17,0,none⟩) l.length l.length),(9,.pointer (some ⟨b9,0,none⟩)),(10,.bool y.2.1),(19,.slice (some ⟨nb,off,none⟩) N.length zn),(20,.int .i64 (N.length:Int)),(21,.int .i64 (j:Int)),(45,.slice oa l.length c),(46,.int .i64 (l.length:Int)),(47,.int .i64 (y.1:Int))]) (fun y=>[.blk b9 (.cells (gnC x j).toArray 83 (0,0)),.blk b17 (.cells (bV y.2.2).toArray 4 (0,0)),.blk b3 (.cells [str nm,.int .i64 (lc:Int),.int .i64 (s:Int),.slice (some ⟨nb,off,none⟩) N.length zn].toArray 43 (0,0))]) (fun y w'=>y.1≤l.length∧FndI b (N.take j) x l y.1 y.2.1 y.2.2) (fun y=>l.length - y.1) (0,false,F0) ⟨rfl,rfl,rfl,rfl,rfl,rfl,rfl,rfl,rfl,rfl,rfl,trivial⟩ st ⟨by simp,hF.start⟩ ?_
  clear st
  rintro ⟨i,is,F1⟩ w ⟨hi,hI⟩ st
  dsimp only at hi hI st ⊢
  refine sr ?_
  refine vy (y_lss rfl rfl) ?_
  refine et (vc_keep [(1,_),(2,_),(7,_),(9,_),(10,_),(19,_),(20,_),(21,_),(45,_),(46,_),(47,_),(48,_)] ⟨rfl,rfl,rfl,rfl,rfl,rfl,rfl,rfl,rfl,rfl,rfl,rfl,trivial⟩ (vc_seq ?_))
  refine vif ?_ ?_
  ·intro hc48
   try simp only [dn] at hc48
   have hi2:i<l.length:=by omega
   obtain⟨t,ht⟩:∃ t,l[i]?=some t:=⟨_,List.getElem?_eq_getElem hi2⟩
   obtain⟨lb,lc2,hg,-⟩:=own_form hlo (by omega)
   simp only [Value.slice.injEq,true_and] at hg
   obtain⟨rfl,rfl⟩:=hg
   have hF1l:=hI.1
   refine kt (vc_keep [(1,_),(2,_),(7,_),(9,_),(10,_),(19,_),(20,_),(21,_),(45,_),(46,_),(47,_)] ⟨rfl,rfl,rfl,rfl,rfl,rfl,rfl,rfl,rfl,rfl,rfl,trivial⟩ (vc_seq (vc_block (sr ?_))))
   refine ym ?_
   refine vy (y_ia0 (k:=i) rfl rfl underlying44 sizeOf3 rfl (by omega)) ?_
   refine vy ((by exact y_ldc rfl isAgg3 (st.chg.cell (own_cell hlo (by rw [Nat.mul_one,List.getElem?_map,ht];rfl)) (by simp)))) ?_
   iterate 2 refine ya ?_
   refine et (vc_keep [(1,_),(2,_),(7,_),(9,_),(10,_),(11,_),(12,_),(19,_),(20,_),(21,_),(45,_),(46,_),(47,_)] ⟨rfl,rfl,rfl,rfl,rfl,rfl,rfl,rfl,rfl,rfl,rfl,rfl,rfl,trivial⟩ (sr ?_))
   refine ym ?_
   refine yfz 3 underlying83 sizeOf3 ?_
   refine yl st 0 isAgg3 ?_
   refine vy (y_eqi rfl rfl) ?_
   refine et (vc_keep [(1,_),(2,_),(7,_),(9,_),(10,_),(11,_),(19,_),(20,_),(21,_),(45,_),(46,_),(47,_),(55,_)] ⟨rfl,rfl,rfl,rfl,rfl,rfl,rfl,rfl,rfl,rfl,rfl,rfl,rfl,trivial⟩ ?_)
   refine vif ?_ ?_
   ·intro hc55
    try simp only [dn] at hc55
    have hth:(t:Int)=x.th:=by omega
    refine sr ?_
    iterate 2 refine ym ?_
    refine vy (y_ia0 (k:=i) rfl rfl underlying90 sizeOf4 rfl (by omega)) ?_
    refine vc_e (e_st st 1 rfl rfl rfl rfl sizeOf4 rfl (by simp only [Nat.blt_eq,List.length_map];omega) (.inr hb17) ?_)
    intro w st;dsimp only [setNth] at st
    rw [bV_set] at st
    refine et (vk10 1 2 7 9 19 20 21 45 46 47 (vc_region ?_))
    refine ya ?_
    refine vc_end (vq_block (vq_then (vc_keep [(1,_),(2,_),(7,_),(9,_),(10,_),(19,_),(20,_),(21,_),(45,_),(46,_),(47,_)] ⟨rfl,rfl,rfl,rfl,rfl,rfl,rfl,rfl,rfl,rfl,rfl,trivial⟩ (vc_region ?_))))
    refine vy (y_add rfl rfl (by omega:_=((i+1:Nat):Int)) (by omega) (by omega)) ?_
    refine ym ?_
    refine vc_end ?_
    refine vq_again (i+1,true,F1.set i true)  ⟨rfl,rfl,rfl,rfl,rfl,rfl,rfl,rfl,rfl,rfl,rfl,trivial⟩ st ?_ ?_
    ·exact⟨by dsimp only;omega,hI.hit ht hth⟩
    dsimp only;omega
   intro hc55
   try simp only [dn] at hc55
   have hth:¬ (t:Int)=x.th:=by omega
   refine vc_code_skip (vq_block (vq_then (vc_keep [(1,_),(2,_),(7,_),(9,_),(10,_),(19,_),(20,_),(21,_),(45,_),(46,_),(47,_)] ⟨rfl,rfl,rfl,rfl,rfl,rfl,rfl,rfl,rfl,rfl,rfl,trivial⟩ (vc_region ?_))))
   refine vy (y_add rfl rfl (by omega:_=((i+1:Nat):Int)) (by omega) (by omega)) ?_
   refine ym ?_
   refine vc_end ?_
   refine vq_again (i+1,is,F1)  ⟨rfl,rfl,rfl,rfl,rfl,rfl,rfl,rfl,rfl,rfl,rfl,trivial⟩ st ?_ ?_
   ·exact⟨by dsimp only;omega,hI.miss ht hth⟩
   dsimp only;omega
  intro hc48
  try simp only [dn] at hc48
  have hi2:i=l.length:=by omega
  subst hi2
  have his:is=true:=hI.2.2.2 (by rw [List.take_length];exact ha x hxm hrel)
  subst his
  refine vc_exit (vq_then_exit (vq_then_exit (vq_block_exit (vq_then (vk7 1 2 7 10 19 20 21 (sr ?_))))))
  refine ym ?_
  refine vy (y_not rfl) ?_
  refine et (vk7 1 2 7 19 20 21 61 ?_)
  refine vif ?_ ?_
  ·intro hc61
   exfalso;revert hc61;decide
  intro hc61
  try simp only [dn] at hc61
  refine vc_code_skip (vq_block (vq_then (vk6 1 2 7 19 20 21 (vc_region ?_))))
  refine vy (y_add rfl rfl (by omega:_=((j+1:Nat):Int)) (by omega) (by omega)) ?_
  refine ym ?_
  refine vc_end ?_
  refine vq_again (j+1,F1)  ⟨rfl,rfl,rfl,rfl,rfl,rfl,trivial⟩ (st.drop (.cons _ (List.Sublist.refl _))) ?_ ?_
  ·refine⟨by dsimp only;omega,?_⟩
   dsimp only
   rw [htk]
   exact hI.done hrel
  dsimp only;omega
 intro hc22
 try simp only [dn] at hc22
 have hj2:j=N.length:=by omega
 subst hj2
 rw [List.take_length] at hF
 refine vc_exit (vq_then_exit (vq_then_exit (vq_block_exit (vq_then (vk1 7 (vc_seq (sr ?_)))))))
 refine ym ?_
 refine vy (y_lensl rfl underlying90) ?_
 refine ym ?_
 refine et (vk3 63 64 65 (vc_block ?_))
 refine vc_loop (w0:=w0) (M:=[]) (fun (i:Nat)=>[(63,.slice (some ⟨b17,0,none⟩) l.length l.length),(64,.int .i64 (l.length:Int)),(65,.int .i64 (i:Int))]) (fun _=>[.blk b17 (.cells (bV F0).toArray 4 (0,0))]) (fun i w'=>i≤l.length) (fun i=>l.length - i) 0 ⟨rfl,rfl,rfl,trivial⟩ (st.pick [0] rfl (by decide)) (by simp) ?_
 clear st
 intro i w hi st
 refine sr ?_
 refine vy (y_lss rfl rfl) ?_
 refine et (vk4 63 64 65 66 (vc_seq ?_))
 refine vif ?_ ?_
 ·intro hc66
  try simp only [dn] at hc66
  have hi2:i<l.length:=by omega
  obtain⟨t,ht⟩:∃ t,l[i]?=some t:=⟨_,List.getElem?_eq_getElem hi2⟩
  have hFt:=(hF.2 i t ht).2 (hb t (List.mem_of_getElem? ht))
  refine kt (vk3 63 64 65 (vc_seq (vc_block (sr ?_))))
  refine vy (y_ia0 (k:=i) rfl rfl underlying90 sizeOf4 rfl (by omega)) ?_
  refine vy ((by exact y_ld st 0 rfl isAgg4 rfl (by rw [nth_eq,Nat.mul_one,List.getElem?_map,hFt];rfl))) ?_
  refine ya ?_
  refine et (vk4 14 63 64 65 (sr ?_))
  refine ym ?_
  refine vy (y_not rfl) ?_
  refine et (vk4 63 64 65 70 ?_)
  refine vif ?_ ?_
  ·intro hc70
   exfalso;revert hc70;decide
  intro hc70
  try simp only [dn] at hc70
  refine vc_code_skip (vq_block (vq_then (vk3 63 64 65 (vc_region ?_))))
  refine vy (y_add rfl rfl (by omega:_=((i+1:Nat):Int)) (by omega) (by omega)) ?_
  refine ym ?_
  refine vc_end ?_
  refine vq_again (i+1)  ⟨rfl,rfl,rfl,trivial⟩ st ?_ ?_
  ·omega
  omega
 intro hc66
 try simp only [dn] at hc66
 refine vc_exit (vq_then_exit (vq_then_exit (vq_block_exit (vq_then (vc_keep [] trivial (sr ?_))))))
 refine ya ?_
 refine et (vk1 6 (vc_ret ?_))
 refine vr1 st results10 ?_
 exact⟨rfl,st.chg⟩
theorem fieldsV2:(Tryz.prog.fieldsOf 81).toList.map (fun f=>(f.name,f.type,f.offset))=[("IsSlot",4,0),("Slot",3,1),("Word",2,2)]:=by kernel_rfl
theorem eqV (v:Vl) (w:World):(Op.equalIn 9999 81 (.agg (vlC v).toArray) (.agg (vlC v).toArray)).run Tryz.prog w=.ok true w:=by
 rw [run_equalIn_agg w 9998 81 _ _ (by kernel_rfl) (by kernel_rfl)]
 have h:=fieldsV2
 match hf:(Tryz.prog.fieldsOf 81).toList with
 | [a,b,c]=>
  rw [hf] at h
  simp only [List.map_cons,List.map_nil,List.cons.injEq,Prod.mk.injEq,and_true] at h
  obtain⟨⟨a1,a2,a3⟩,⟨b1,b2,b3⟩,c1,c2,c3⟩:=h
  have e1:∀ w,(part 4 (vlC v).toArray 0).run Tryz.prog w=.ok (.bool (vB v)) w:=fun w=>run_part1 isAgg4 rfl
  have e2:∀ w,(part 3 (vlC v).toArray 1).run Tryz.prog w=.ok (.int .i64 (ParS.vS v)) w:=fun w=>run_part1 isAgg3 rfl
  have e3:∀ w,(part 2 (vlC v).toArray 2).run Tryz.prog w=.ok (.int .i64 (vW v)) w:=fun w=>run_part1 isAgg2 rfl
  have r1:=run_equalIn_bool (P:=Tryz.prog) w 9997 4 (vB v) (vB v) underlying4
  have r2:=run_equalIn_int (P:=Tryz.prog) w 9997 3 .i64 .i64 (ParS.vS v) (ParS.vS v) underlying3
  have r3:=run_equalIn_int (P:=Tryz.prog) w 9997 2 .i64 .i64 (vW v) (vW v) underlying2
  simp only [Op.eqFields,a1,a2,a3,b1,b2,b3,c1,c2,c3,Sem.run_bind,Sem.run_ite,e1,e2,e3,Result.andThen_ok]
  simp only [ne_eq,String.reduceEq,not_false_eq_true,if_true,Sem.run_bind,Sem.run_ite,e1,e2,e3,r1,r2,r3,Result.andThen_ok,Sem.run_pure]
  simp
 | []=>rw [hf] at h;simp at h
 | [_]=>rw [hf] at h;simp at h
 | [_,_]=>rw [hf] at h;simp at h
 | _::_::_::_::_=>rw [hf] at h;simp at h
theorem fieldsG:(Tryz.prog.fieldsOf 83).toList.map (fun f=>(f.name,f.type,f.offset))=[("Kind",79,0),("Op",57,1),("Slot",3,2),("Thing",3,3),("A",81,4),("B",81,7),("Next",3,10),("Else",3,11),("Origin",3,12)]:=by kernel_rfl
theorem eqFieldsG (g:Gn) (og:Nat) (w:World):(Op.eqFields 9999 (gnC g og).toArray (gnC g og).toArray (Tryz.prog.fieldsOf 83).toList).run Tryz.prog w=.ok true w:=by
 have h:=fieldsG
 match hf:(Tryz.prog.fieldsOf 83).toList with
 | [f1,f2,f3,f4,f5,f6,f7,f8,f9]=>
  rw [hf] at h
  simp only [List.map_cons,List.map_nil,List.cons.injEq,Prod.mk.injEq,and_true] at h
  obtain⟨⟨a1,a2,a3⟩,⟨b1,b2,b3⟩,⟨c1,c2,c3⟩,⟨d1,d2,d3⟩,⟨i1,i2,i3⟩,⟨j1,j2,j3⟩,⟨k1,k2,k3⟩,⟨l1,l2,l3⟩,m1,m2,m3⟩:=h
  have e1:∀ w,(part 79 (gnC g og).toArray 0).run Tryz.prog w=.ok (.int .u8 g.k) w:=fun w=>run_part1 isAgg79 rfl
  have e2:∀ w,(part 57 (gnC g og).toArray 1).run Tryz.prog w=.ok (.int .u8 g.op) w:=fun w=>run_part1 isAgg57 rfl
  have e3:∀ w,(part 3 (gnC g og).toArray 2).run Tryz.prog w=.ok (.int .i64 g.sl) w:=fun w=>run_part1 isAgg3 rfl
  have e4:∀ w,(part 3 (gnC g og).toArray 3).run Tryz.prog w=.ok (.int .i64 g.th) w:=fun w=>run_part1 isAgg3 rfl
  have e5:∀ w,(part 81 (gnC g og).toArray 4).run Tryz.prog w=.ok (.agg (vlC g.a).toArray) w:=fun w=>run_partA isAgg81 sizeOf81 rfl
  have e6:∀ w,(part 81 (gnC g og).toArray 7).run Tryz.prog w=.ok (.agg (vlC g.b).toArray) w:=fun w=>run_partA isAgg81 sizeOf81 rfl
  have e7:∀ w,(part 3 (gnC g og).toArray 10).run Tryz.prog w=.ok (.int .i64 (g.nx:Int)) w:=fun w=>run_part1 isAgg3 rfl
  have e8:∀ w,(part 3 (gnC g og).toArray 11).run Tryz.prog w=.ok (.int .i64 (g.el:Int)) w:=fun w=>run_part1 isAgg3 rfl
  have e9:∀ w,(part 3 (gnC g og).toArray 12).run Tryz.prog w=.ok (.int .i64 (og:Int)) w:=fun w=>run_part1 isAgg3 rfl
  have r1:=run_equalIn_int (P:=Tryz.prog) w 9998 79 .u8 .u8 g.k g.k underlying79
  have r2:=run_equalIn_int (P:=Tryz.prog) w 9998 57 .u8 .u8 g.op g.op underlying57
  have r3:=fun (z:Int)=>run_equalIn_int (P:=Tryz.prog) w 9998 3 .i64 .i64 z z underlying3
  have r5:=fun v=>eqV v w
  simp only [Op.eqFields,a1,a2,a3,b1,b2,b3,c1,c2,c3,d1,d2,d3,i1,i2,i3,j1,j2,j3,k1,k2,k3,l1,l2,l3,m1,m2,m3,Sem.run_bind,Sem.run_ite,e1,e2,e3,e4,e5,e6,e7,e8,e9,Result.andThen_ok]
  simp only [ne_eq,String.reduceEq,not_false_eq_true,if_true,Sem.run_bind,Sem.run_ite,e1,e2,e3,e4,e5,e6,e7,e8,e9,r1,r2,r3,r5,Result.andThen_ok,Sem.run_pure,beq_self_eq_true]
  try simp
 | []=>rw [hf] at h;simp at h
 | [_]=>rw [hf] at h;simp at h
 | [_,_]=>rw [hf] at h;simp at h
 | [_,_,_]=>rw [hf] at h;simp at h
 | [_,_,_,_]=>rw [hf] at h;simp at h
 | [_,_,_,_,_]=>rw [hf] at h;simp at h
 | [_,_,_,_,_,_]=>rw [hf] at h;simp at h
 | [_,_,_,_,_,_,_]=>rw [hf] at h;simp at h
 | [_,_,_,_,_,_,_,_]=>rw [hf] at h;simp at h
 | _::_::_::_::_::_::_::_::_::_::_=>rw [hf] at h;simp at h
section
variable {n:Fr} {kn:Kn} {w:World} {d ty:Nat} {pos:String} {aft:Array Edge} {g:Option (Nat×Bool)}
theorem y_neG {U:Nat} {x y:Operand} (z:Gn) (og:Nat) (hx:evO kn x=some (.agg (gnC z og).toArray)) (hy:evO kn y=some (.agg (gnC z og).toArray)):Y Tryz.prog n kn w ⟨some d,.binOp .neq 83 x y U,ty,pos,aft,g⟩ (.bool false):=
 y_bo hx hy (by
   have h1:=run_eqGuard_agg (P:=Tryz.prog) w .neq 83 x y (gnC z og).toArray (gnC z og).toArray (by kernel_rfl)
   have h2:=run_neq_struct (P:=Tryz.prog) w 83 (gnC z og).toArray (gnC z og).toArray
   rw [run_equalIn_agg w 9999 83 _ _ (by kernel_rfl) (by kernel_rfl),eqFieldsG] at h2
   simp only [Sem.run_bind,h1,Result.andThen_ok]
   have h3:(binOp .neq 83 (.agg (gnC z og).toArray) (.agg (gnC z og).toArray)).run Tryz.prog w=.ok (.bool false) w:=by rw [h2];rfl
   exact h3)
end
theorem tnodes_any (T:Nat→Prop) (N:List Gn) (oa ob:Option Addr) (ca cb:Nat) (hN:N.length≤4096) (w:World) (ha:NdRow w T oa N) (hb:NdRow w T ob N):Ret Tryz.prog 12 [.slice oa N.length ca,.slice ob N.length cb] w fun v w'=>v=.bool true∧Chg [] w w':=by
 refine ret_of [_,_] func12 rfl ntmps12 rfl ?_
 have st:=St.init w []
 obtain⟨w0,rfl⟩:∃ w0,w0=w:=⟨_,rfl⟩
 refine sr ?_
 refine ya ?_
 refine et (vk2 0 1 (vc_seq (sr ?_)))
 refine ym ?_
 refine vy (y_lensl rfl underlying41) ?_
 refine ym ?_
 refine vy (y_lensl rfl underlying41) ?_
 refine vy (y_nei rfl rfl) ?_
 refine et (vk3 0 1 10 ?_)
 refine vif ?_ ?_
 ·intro hc10
  exact absurd hc10 (by simp)
 intro hc10
 try simp only [dn] at hc10
 refine kt (vk2 0 1 (vc_seq (sr ?_)))
 refine ym ?_
 refine vy (y_lensl rfl underlying41) ?_
 refine ym ?_
 refine et (vk4 0 1 12 13 (vc_block ?_))
 refine vc_loop (w0:=w0) (M:=[]) (fun (j:Nat)=>[(0,.slice oa N.length ca),(1,.slice ob N.length cb),(12,.int .i64 (N.length:Int)),(13,.int .i64 (j:Int))]) (fun _=>[]) (fun j w'=>j≤N.length) (fun j=>N.length - j) 0 ⟨rfl,rfl,rfl,rfl,trivial⟩ st (by simp) ?_
 clear st
 intro j w hj st
 refine sr ?_
 refine vy (y_lss rfl rfl) ?_
 refine et (vk5 0 1 12 13 14 (vc_seq ?_))
 refine vif ?_ ?_
 ·intro hc14
  try simp only [dn] at hc14
  have hj2:j<N.length:=by omega
  obtain⟨x,hx⟩:∃ x,N[j]?=some x:=⟨_,List.getElem?_eq_getElem hj2⟩
  obtain⟨b1,f1,rfl,-,-,hc1⟩:=ha.at (by omega)
  obtain⟨b2,f2,rfl,-,-,hc2⟩:=hb.at (by omega)
  refine kt (vk4 0 1 12 13 (vc_seq (vc_block (sr ?_))))
  refine ym ?_
  refine ya ?_
  refine et (vk5 0 1 5 12 13 (vc_seq ?_))
  refine vdr0 Tryz.mixed [Yt 0,Yt 1,Yt 2,Yt 3,Yt 4,Yt 5,Yt 6,Yt 7,Yt 8] st ?_
  clear st;intro w st hS
  iterate 2 refine pm hS ?_
  refine vp_take rfl rfl rfl hS (fun w st=>y_ia (k:=j) rfl rfl underlying41 sizeOf83 rfl (by omega)) ?_
  refine vp_take rfl rfl rfl hS (fun w st=>y_ldca (gnC x j) rfl isAgg83 sizeOf83 rfl (fun q v hq=>st.chg.cell (hc1 j x hx q v hq) (by simp))) ?_
  iterate 2 refine pm hS ?_
  refine vp_take rfl rfl rfl hS (fun w st=>y_ia (k:=j) rfl rfl underlying41 sizeOf83 rfl (by omega)) ?_
  refine vp_take rfl rfl rfl hS (fun w st=>y_ldca (gnC x j) rfl isAgg83 sizeOf83 rfl (fun q v hq=>st.chg.cell (hc2 j x hx q v hq) (by simp))) ?_
  refine vp_take rfl rfl rfl hS (fun w st=>y_neG x j rfl rfl) ?_
  refine vp_end (vq_then (vk5 0 1 12 13 24 ?_))
  refine vif ?_ ?_
  ·intro hc24
   exfalso;revert hc24;decide
  intro hc24
  try simp only [dn] at hc24
  refine vc_code_skip (vq_block (vq_then (vk4 0 1 12 13 (vc_region ?_))))
  refine vy (y_add rfl rfl (by omega:_=((j+1:Nat):Int)) (by omega) (by omega)) ?_
  refine ym ?_
  refine vc_end ?_
  refine vq_again (j+1)  ⟨rfl,rfl,rfl,rfl,trivial⟩ st ?_ ?_
  ·omega
  omega
 intro hc14
 try simp only [dn] at hc14
 refine vc_exit (vq_then_exit (vq_then_exit (vq_block_exit (vq_then (vc_keep [] trivial (sr ?_))))))
 refine ya ?_
 refine et (vk1 4 (vc_ret ?_))
 refine vr1 st results12 ?_
 exact⟨rfl,st.chg⟩
def stdT (nm:Wd) (t:Th):Bool:=decide (t.nm=nm) || decide (idxI t.locals nm≥0)
def stdP (p:Pg) (nm:Wd):Bool:=decide (idxI p.shared nm≥0) || decide (idxI p.locks nm≥0) || p.threads.any (stdT nm)
theorem idx_neg {l:List Dc} {nm:Wd} (h:¬ idxI l nm≥0):NoN nm l:=by
 have h1:=idxI_none (by omega:idxI l nm<0)
 unfold idxO at h1
 rw [List.findIdx?_eq_none_iff] at h1
 intro d hd e
 have:=h1 d hd
 simp [e] at this
theorem stdP_no {p:Pg} {nm:Wd} (h:stdP p nm=false):NoP nm p:=by
 unfold stdP at h
 simp only [Bool.or_eq_false_iff,decide_eq_false_iff_not,List.any_eq_false] at h
 obtain⟨⟨h1,h2⟩,h3⟩:=h
 refine⟨idx_neg h1,idx_neg h2,fun t ht=>?_⟩
 have:=h3 t ht
 unfold stdT at this
 simp only [Bool.or_eq_true,decide_eq_true_eq,not_or] at this
 exact⟨this.1,idx_neg this.2⟩
theorem stands1_any (t:Th) (ol ob:Option Addr) (cl cb nb E:Nat) (fz:Nat×Nat) (nm:Wd) (n0:Nat) (hlm:t.locals.length≤1099511627776) (w:World) (hD:DcRow w (·<n0) ol t.locals) (hn:w.heap[nb]?=some (.cells [str nm].toArray E fz)):Ret Tryz.prog 72 [.agg (thL t ol ob cl cb).toArray,.pointer (some ⟨nb,0,none⟩)] w fun v w'=>v=.bool (stdT nm t)∧Chg [] w w':=by
 refine ret_of [_,_] func72 rfl ntmps72 rfl ?_
 have st:=St.init w []
 obtain⟨w0,rfl⟩:∃ w0,w0=w:=⟨_,rfl⟩
 replace st:=St.of1 [] hn
 refine sr ?_
 refine vc_e (e_bx (l:=[_,_,_,_]) st rfl rfl rfl rfl ?_)
 intro b2 w hb2 st
 refine ya ?_
 refine et (vk2 1 2 (sr ?_))
 refine vy (y_fa0 rfl underlying50 rfl rfl sizeOf9 rfl) ?_
 refine yl st 0 isAgg9 ?_
 refine yl st 1 isAgg9 ?_
 refine vy (y_eqs rfl rfl) ?_
 refine vmb ?_ ?_
 intro hg8
 try simp only [dn] at hg8
 iterate 5 refine vsk ?_
 refine ypt ?_
 rotate_left
 intro hg8
 try simp only [dn] at hg8
 refine yfz 1 underlying50 sizeOf23 ?_
 refine yl st 0 isAgg23 ?_
 refine yl st 1 isAgg9 ?_
 refine vc_e (e_call [_,_] rfl rfl call73 rfl (cfind_any t.locals ol cl nm n0 _ (hD.kept st.sm) hlm) ?_)
 rintro _ w ⟨rfl,cw⟩
 replace st:=st.call0 cw
 refine vy (y_geq rfl rfl) ?_
 refine ypf ?_
 all_goals
  refine ya ?_
  refine et (vk1 3 (vc_ret ?_))
  refine vr1 st results72 ?_
  refine⟨?_,st.chg⟩
  unfold stdT
  simp_all
theorem tindex_any (l:List Th) (oa:Option Addr) (c nb E:Nat) (fz:Nat×Nat) (nm:Wd) (n0:Nat) (hok:OkT l) (w:World) (hT:ThRow w (·<n0) oa l) (hn:w.heap[nb]?=some (.cells [str nm].toArray E fz)):Ret Tryz.prog 114 [.slice oa l.length c,.func (.func 72) #[] [.pointer (some ⟨nb,0,none⟩)].toArray] w fun v w'=>(∃ r:Int,v=.int .i64 r∧decide (r≥0)=l.any (stdT nm))∧Chg [] w w':=by
 refine ret_of [_,_] func114 rfl ntmps114 rfl ?_
 have st:=St.init w []
 obtain⟨w0,rfl⟩:∃ w0,w0=w:=⟨_,rfl⟩
 replace st:=St.of1 [] hn
 have hlm:=hok.1
 refine sr ?_
 refine ya ?_
 refine et (vk2 0 1 (vc_seq (sr ?_)))
 refine ym ?_
 refine vy (y_lensl rfl underlying24) ?_
 refine ym ?_
 refine et (vk4 0 1 7 8 (vc_block ?_))
 refine vc_loop (w0:=w0) (M:=[]) (fun (j:Nat)=>[(0,.slice oa l.length c),(1,.func (.func 72) #[] [.pointer (some ⟨nb,0,none⟩)].toArray),(7,.int .i64 (l.length:Int)),(8,.int .i64 (j:Int))]) (fun _=>[.blk nb (.cells [str nm].toArray E fz)]) (fun j w'=>j≤l.length∧(l.take j).any (stdT nm)=false) (fun j=>l.length - j) 0 ⟨rfl,rfl,rfl,rfl,trivial⟩ st ⟨by simp,by simp⟩ ?_
 clear st
 rintro j w ⟨hj,hb⟩ st
 refine sr ?_
 refine vy (y_lss rfl rfl) ?_
 refine et (vk5 0 1 7 8 9 (vc_seq ?_))
 refine vif ?_ ?_
 ·intro hc9
  try simp only [dn] at hc9
  have hj2:j<l.length:=by omega
  obtain⟨x,hx⟩:∃ x,l[j]?=some x:=⟨_,List.getElem?_eq_getElem hj2⟩
  obtain⟨gb,go,rfl,hgS,hgl,hg⟩:=ThRow.at hT (by omega)
  obtain⟨tl,tb,tc,td,hCx,hBx,hc⟩:=hg j x hx
  refine kt (vk4 0 1 7 8 (vc_seq (vc_block (sr ?_))))
  refine ym ?_
  refine ya ?_
  refine et (vk5 0 1 5 7 8 (sr ?_))
  iterate 3 refine ym ?_
  refine vy (y_ia (k:=j) rfl rfl underlying24 sizeOf50 rfl (by omega)) ?_
  refine vy (y_ldca (thL x tl tb tc td) rfl isAgg50 sizeOf50 rfl (fun i v hi=>st.chg.cell (hc i v hi) (by simp))) ?_
  refine vc_e (e_callv [_] rfl rfl rfl call72 rfl (stands1_any x tl tb tc td nb _ _ nm n0 (hok.2 j x hx).1.1 _ (hCx.kept st.sm) (st.res (i:=0) rfl)) ?_)
  rintro _ w ⟨rfl,cw⟩
  replace st:=st.call0 cw
  refine et (vk6 0 1 5 7 8 16 ?_)
  refine vif ?_ ?_
  ·intro hc16
   try simp only [dn] at hc16
   refine sr ?_
   refine ym ?_
   refine ya ?_
   refine et (vk1 4 (vc_ret (vq_block_ret (vq_then_ret (vq_then_ret (vq_block_ret (vq_then_ret ?_)))))))
   refine vr1 st results114 ?_
   refine⟨⟨_,rfl,?_⟩,st.chg⟩
   rw [List.any_eq_true.2 ⟨x,List.mem_of_getElem? hx,by assumption⟩]
   simp
  intro hc16
  try simp only [dn] at hc16
  refine vc_code_skip (vq_block (vq_then (vk4 0 1 7 8 (vc_region ?_))))
  refine vy (y_add rfl rfl (by omega:_=((j+1:Nat):Int)) (by omega) (by omega)) ?_
  refine ym ?_
  refine vc_end ?_
  refine vq_again (j+1)  ⟨rfl,rfl,rfl,rfl,trivial⟩ st ?_ ?_
  ·refine⟨by omega,?_⟩
   rw [take_one hx,List.any_append,hb]
   simpa using hc16
  omega
 intro hc9
 try simp only [dn] at hc9
 have hj2:j=l.length:=by omega
 subst hj2
 rw [List.take_length] at hb
 refine vc_exit (vq_then_exit (vq_then_exit (vq_block_exit (vq_then (vc_keep [] trivial (sr ?_))))))
 refine ya ?_
 refine et (vk1 4 (vc_ret ?_))
 refine vr1 st results114 ?_
 refine⟨⟨_,rfl,?_⟩,st.chg⟩
 rw [hb];rfl
theorem tcontains_any (l:List Th) (oa:Option Addr) (c nb E:Nat) (fz:Nat×Nat) (nm:Wd) (n0:Nat) (hok:OkT l) (w:World) (hT:ThRow w (·<n0) oa l) (hn:w.heap[nb]?=some (.cells [str nm].toArray E fz)):Ret Tryz.prog 71 [.slice oa l.length c,.func (.func 72) #[] [.pointer (some ⟨nb,0,none⟩)].toArray] w fun v w'=>v=.bool (l.any (stdT nm))∧Chg [] w w':=by
 refine ret_of [_,_] func71 rfl ntmps71 rfl ?_
 have st:=St.init w []
 obtain⟨w0,rfl⟩:∃ w0,w0=w:=⟨_,rfl⟩
 replace st:=St.of1 [] hn
 refine sr ?_
 refine ya ?_
 refine et (vk2 0 1 (sr ?_))
 iterate 2 refine ym ?_
 refine vc_e (e_call [_,_] rfl rfl call114 rfl (tindex_any l oa c nb _ _ nm n0 hok _ (ThRow.kept hT st.sm) (st.res (i:=0) rfl)) ?_)
 rintro _ w ⟨⟨r,rfl,hr⟩,cw⟩
 replace st:=st.call0 cw
 refine vy (y_geq rfl rfl) ?_
 refine ya ?_
 refine et (vk1 4 (vc_ret ?_))
 refine vr1 st results71 ?_
 exact⟨by rw [← hr],st.chg⟩
theorem stands_any (p:Pg) (n0:Nat) (os ol ot:Option Addr) (cs cl ct:Nat) (hok:OkP p) (nm:Wd) (w:World) (hSh:DcRow w (·<n0) os p.shared) (hL:DcRow w (·<n0) ol p.locks) (hT:ThRow w (·<n0) ot p.threads):Ret Tryz.prog 28 [.agg [.slice os p.shared.length cs,.slice ol p.locks.length cl,.slice ot p.threads.length ct].toArray,str nm] w fun v w'=>v=.bool (stdP p nm)∧Chg [] w w':=by
 refine ret_of [_,_] func28 rfl ntmps28 rfl ?_
 have st:=St.init w []
 obtain⟨w0,rfl⟩:∃ w0,w0=w:=⟨_,rfl⟩
 refine sr ?_
 refine vc_e (e_bx (l:=[_,_,_]) st rfl rfl rfl rfl ?_)
 intro b2 w hb2 st
 refine vc_e (e_bx (l:=[_]) st rfl rfl rfl rfl ?_)
 intro b3 w hb3 st
 refine ya ?_
 refine et (vk2 2 3 (vc_seq (sr ?_)))
 refine yla st 1 [_,_,_] isAgg26 sizeOf26 ?_
 refine yl st 0 isAgg9 ?_
 refine vc_e (e_call [_,_] rfl rfl call69 rfl (cshared_any p.shared os ol ot cs cl ct _ _ nm n0 _ (hSh.kept st.sm) hok.1.1) ?_)
 rintro _ w ⟨rfl,cw⟩
 replace st:=st.call0 cw
 refine vy (y_geq rfl rfl) ?_
 refine vmb ?_ ?_
 intro hg9
 try simp only [dn] at hg9
 iterate 4 refine vsk ?_
 refine ypt ?_
 refine et (vk3 2 3 14 ?_)
 refine vc_ift rfl ?_
 refine sr ?_
 refine ya ?_
 refine et (vk1 4 (vc_ret (vq_then_ret ?_)))
 rotate_left
 focus
  intro hg9
  try simp only [dn] at hg9
  refine yla st 1 [_,_,_] isAgg26 sizeOf26 ?_
  refine yl st 0 isAgg9 ?_
  refine vc_e (e_call [_,_] rfl rfl call70 rfl (clock_any p.locks os ol ot cs cl ct _ _ nm n0 _ (hL.kept st.sm) hok.2.1.1) ?_)
  rintro _ w ⟨rfl,cw⟩
  replace st:=st.call0 cw
  refine vy (y_geq rfl rfl) ?_
  refine ypf ?_
  refine et (vk3 2 3 14 ?_)
  refine vif ?_ ?_
  intro hc14
  try simp only [dn] at hc14
  refine sr ?_
  refine ya ?_
  refine et (vk1 4 (vc_ret (vq_then_ret ?_)))
  rotate_left
  intro hc14
  try simp only [dn] at hc14
  refine kt (vk2 2 3 (sr ?_))
  refine yfz 2 underlying26 sizeOf24 ?_
  refine yl st 1 isAgg24 ?_
  refine vy (y_mf [] [_] rfl rfl) ?_
  refine vc_e (e_call [_,_] rfl rfl call71 rfl (tcontains_any p.threads ot ct b3 _ _ nm n0 hok.2.2 _ (ThRow.kept hT st.sm) (st.res (i:=0) rfl)) ?_)
  rintro _ w ⟨rfl,cw⟩
  replace st:=st.call0 cw
  refine ya ?_
  refine et (vk1 4 (vc_ret ?_))
 all_goals
  refine vr1 st results28 ?_
  refine⟨?_,st.chg⟩
  unfold stdP
  first|(rw [decide_eq_false (by omega:¬ idxI p.shared nm≥0),decide_eq_false (by omega:¬ idxI p.locks nm≥0)];rfl)|(simp_all;done)
def opsV:List Value:=[.nilFunc,.nilFunc,.func (.func 77) #[] #[],.nilFunc,.func (.func 78) #[] #[],.nilFunc,.func (.func 79) #[] #[],.nilFunc,.func (.func 80) #[] #[],.nilFunc,.func (.func 81) #[] #[],.nilFunc,.func (.func 82) #[] #[],.nilFunc,.func (.func 83) #[] #[],.nilFunc,.func (.func 84) #[] #[],.nilFunc,.func (.func 85) #[] #[],.nilFunc,.func (.func 86) #[] #[],.nilFunc,.func (.func 87) #[] #[],.nilFunc,.func (.func 88) #[] #[],.nilFunc,.func (.func 89) #[] #[],.nilFunc,.func (.func 90) #[] #[],.nilFunc,.func (.func 91) #[] #[],.nilFunc,.func (.func 92) #[] #[],.nilFunc,.nilFunc,.func (.func 93) #[] #[],.nilFunc,.func (.func 94) #[] #[]]
def xT:List UInt8:=[120,32,61,32,49,50,59]
theorem scanRes_xT:scanRes xT=([⟨1,[120],0,0⟩,⟨4,[61],0,2⟩,⟨3,[49,50],12,4⟩,⟨4,[59],0,6⟩],0,0,0):=by kernel_rfl
theorem scan_eqT (s:List UInt8) (T:List Tok) (e a r:Nat) (he:scanRes s=(T,e,a,r)) (w:World):Ret Tryz.prog 14 [str s] w fun v w'=>Chg [] w w'∧∃ oa cap,v=.tuple [.slice oa T.length cap,.int .i64 (e:Int),.agg [.int .i64 (a:Int),.int .i64 (r:Int)].toArray].toArray∧
    w'.ownsRow w.heap.size 64 4 (.slice oa T.length cap) T.length (toksL T)∧(0<T.length→∃ b,oa=some ⟨b,0,none⟩):=
 (scan_any s w).mono fun v w' ⟨c,oa,cap,hv,ho⟩=>by
  rw [he] at hv ho
  refine⟨c,oa,cap,hv,ho,fun h=>?_⟩
  obtain⟨b,cap',e,_⟩:=own_form ho h
  simp only [Value.slice.injEq] at e
  exact⟨b,e.1⟩
theorem operators_any (w:World):Ret Tryz.prog 34 [] w fun v w'=>v=.agg opsV.toArray∧Chg [] w w':=by
 refine ret_of [] func34 rfl ntmps34 rfl ?_
 have st:=St.init w []
 refine sr ?_
 refine vc_e (e_al (l:=[_,_,_,_,_,_,_,_,_,_,_,_,_,_,_,_,_,_,_,_,_,_,_,_,_,_,_,_,_,_,_,_,_,_,_,_,_,_]) st rfl rfl zeroValue108 rfl ?_)
 intro b0 w hb0 st
 refine et (vk1 0 (sr ?_))
 iterate 16 refine vy (ybd (.agg #[_,_]) [(0,_)]) ?_
 iterate 2 refine vy (ybd (.agg #[_,_]) [(1,_)]) ?_
 refine vy (ybd (.agg #[_,_,_,_,_,_,_,_,_,_,_,_,_,_,_,_,_,_,_,_,_,_,_,_,_,_,_,_,_,_,_,_,_,_,_,_,_,_]) [(1,_),(2,_),(3,_),(4,_),(5,_),(6,_),(7,_),(8,_),(9,_),(10,_),(11,_),(12,_),(13,_),(14,_),(15,_),(16,_),(17,_),(18,_)]) ?_
 first
 | refine vc_e (ests st 0 [_,_,_,_,_,_,_,_,_,_,_,_,_,_,_,_,_,_,_,_,_,_,_,_,_,_,_,_,_,_,_,_,_,_,_,_,_,_] sizeOf108 ?_)
 intro w st;dsimp only [setNth,wr] at st
 refine et (vk1 0 (vc_ret ?_))
 refine vq_ret1 st (.inl rfl) results34 (by first|exact .cell 0 rfl rfl isAgg108 sizeOf108) ?_
 refine⟨_,rfl,?_⟩
 exact⟨rfl,st.chg⟩
theorem add23_any (w:World):Ret Tryz.prog 77 [.int .i64 2,.int .i64 3] w fun v w'=>v=.int .i64 5∧w'=w:=by
 refine ret_of [_,_] func77 rfl ntmps77 rfl ?_
 have st:=St.init w []
 refine sr ?_
 refine ya ?_
 refine et (vk2 0 1 (sr ?_))
 iterate 2 refine ym ?_
 refine vy (y_addk rfl rfl rfl) ?_
 refine ya ?_
 refine et (vk1 4 (vc_ret ?_))
 refine vr1 st results77 ?_
 exact⟨rfl,rfl⟩
theorem do23_any (w:World):Ret Tryz.prog 13 [.int .u8 1,.int .i64 2,.int .i64 3] w fun v w'=>v=.tuple [.int .i64 5,.int .i64 0].toArray∧Chg [] w w':=by
 refine ret_of [_,_,_] func13 rfl ntmps13 rfl ?_
 have st:=St.init w []
 refine sr ?_
 iterate 2 refine ya ?_
 refine et (vk3 0 1 2 (vc_seq (sr ?_)))
 refine ym ?_
 refine vc_e (e_call [_] rfl rfl call33 rfl (two_any _ _) ?_)
 rintro _ _ ⟨rfl,rfl⟩
 refine vy (y_not rfl) ?_
 refine et (vk4 0 1 2 11 ?_)
 refine vif ?_ ?_
 ·intro hc11
  exfalso;revert hc11;decide
 intro hc11
 try simp only [dn] at hc11
 refine kt (vk3 0 1 2 (sr ?_))
 refine vc_e (e_call [] rfl rfl call34 rfl (operators_any _) ?_)
 rintro _ w ⟨rfl,cw⟩
 replace st:=st.call0 cw
 refine ym ?_
 refine vy (y_ixa (i:=1) (vs:=[.func (.func 77) #[] #[],.nilFunc]) rfl rfl underlying108 sizeOf107 rfl rfl isAgg107 rfl) ?_
 refine vy (y_fld rfl underlying107 rfl rfl isAgg104 rfl) ?_
 refine ya ?_
 refine et (vk3 1 2 8 (sr ?_))
 iterate 3 refine ym ?_
 refine vc_e (e_callv [_,_] rfl rfl rfl call77 rfl (add23_any _) ?_)
 rintro _ _ ⟨rfl,rfl⟩
 iterate 2 refine ya ?_
 refine et (vk2 6 7 (vc_ret ?_))
 refine vq_ret2 st (.inl rfl) results13 (.tmp rfl) (.tmp rfl) ?_
 refine⟨_,rfl,?_⟩
 exact⟨rfl,st.chg⟩
set_option maxHeartbeats 1000000 in
theorem tbegins_any (w:World):Ret Tryz.prog 4 [] w fun v w'=>v=.bool true∧Chg [] w w':=by
 refine ret_of [] func4 rfl ntmps4 rfl ?_
 have st:=St.init w []
 refine sr ?_
 refine ya ?_
 refine et (vc_keep [] trivial (sr ?_))
 refine vc_e (e_call [_,_,_] rfl rfl call13 rfl (do23_any _) ?_)
 rintro _ w ⟨rfl,cw⟩
 replace st:=st.call0 cw
 refine ym ?_
 iterate 2 refine vy (y_ext rfl rfl) ?_
 iterate 2 refine ya ?_
 refine et (vk2 1 2 (sr ?_))
 refine vc_e (e_call [_] rfl rfl call14 rfl (scan_eqT xT _ _ _ _ scanRes_xT _) ?_)
 rintro _ w ⟨cw,oa,cap,rfl,how,hb⟩
 obtain⟨bx,rfl⟩:=hb (by decide)
 replace st:=st.pushOwn cw how
 refine ym ?_
 iterate 3 refine vy (y_ext rfl rfl) ?_
 refine vc_e (e_al (l:=[_,_]) st rfl rfl zeroValue29 rfl ?_)
 intro b5 w hb5 st
 iterate 2 refine ya ?_
 refine vc_e (ests st 0 [_,_] sizeOf29 ?_)
 intro w st;dsimp only [setNth,wr] at st
 refine et (vk4 1 2 3 4 (sr ?_))
 refine ym ?_
 refine vy (y_eqi rfl rfl) ?_
 refine vmb ?_ ?_
 ·intro hg17
  try simp only [dn] at hg17
  refine ym ?_
  refine vy (y_eqi rfl rfl) ?_
  refine ypt ?_
  refine vmb ?_ ?_
  ·intro hg21
   try simp only [dn] at hg21
   refine vc_e (e_call [_] rfl rfl call15 rfl (wprint_any (-7) _ (by omega)) ?_)
   rintro _ w ⟨rfl,cw⟩
   replace st:=st.call0 cw
   have h7:shw (-7)=[45,55]:=by kernel_rfl
   rw [h7]
   refine vy (y_eqs rfl rfl) ?_
   refine ypt ?_
   refine vmb ?_ ?_
   ·intro hg25
    try simp only [dn] at hg25
    refine ym ?_
    refine vy (y_eqi rfl rfl) ?_
    refine ypt ?_
    refine vmb ?_ ?_
    ·intro hg29
     try simp only [dn] at hg29
     refine ym ?_
     refine vy (y_lensl rfl underlying58) ?_
     refine vy (y_eqi rfl rfl) ?_
     refine ypt ?_
     refine vmb ?_ ?_
     ·intro hg34
      try simp only [dn] at hg34
      refine ym ?_
      refine vy (y_ia0 (k:=2) rfl rfl underlying58 sizeOf64 rfl (by omega)) ?_
      refine vy (y_fa (k:=2) rfl underlying64 rfl rfl sizeOf2 rfl) ?_
      refine vy (y_ldo st 1 rfl isAgg2 rfl rfl) ?_
      refine vy (y_eqi rfl rfl) ?_
      refine ypt ?_
      refine vmb ?_ ?_
      ·intro hg41
       try simp only [dn] at hg41
       refine ym ?_
       refine vy (y_ia0 (k:=2) rfl rfl underlying58 sizeOf64 rfl (by omega)) ?_
       refine vy (y_fa0 rfl underlying64 rfl rfl sizeOf62 rfl) ?_
       refine vy (y_ldo st 1 rfl isAgg62 rfl rfl) ?_
       refine vy (y_eqi rfl rfl) ?_
       refine ypt ?_
       refine ya ?_
       refine et (vk1 0 (vc_ret ?_))
       refine vr1 st results4 ?_
       exact⟨by rfl,st.chg⟩
      intro hg41
      exfalso;revert hg41;decide
     intro hg34
     exfalso;revert hg34;decide
    intro hg29
    exfalso;revert hg29;decide
   intro hg25
   exfalso;revert hg25;decide
  intro hg21
  exfalso;revert hg21;decide
 intro hg17
 exfalso;revert hg17;decide
end Go.Proofs.YtkhpdpenlnhbiaaGreatDoor
