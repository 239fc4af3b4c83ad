/- A part of the proof: contracts of functions and plain laws; each theorem says its own conditions. -/
import Derived.Laws.OwnMore
import Derived.Test.YtkhpdpenlnhbiaaGreatDoorTopLoweredK22
import Derived.Test.YtkhpdpenlnhbiaaGreatDoorTopLoweredK20
import Derived.Test.YtkhpdpenlnhbiaaGreatDoorTopLoweredK5
import Derived.Test.YtkhpdpenlnhbiaaGreatDoorTopLoweredK12
import Derived.Test.YtkhpdpenlnhbiaaGreatDoorTopLoweredK7
import Derived.Test.YtkhpdpenlnhbiaaGreatDoorTopLoweredK18
import Derived.Test.YtkhpdpenlnhbiaaGreatDoorTopLoweredK19
set_option linter.unusedVariables false
set_option linter.unusedSimpArgs false
/- A program with another name everywhere: it is one,and has the same graphs. -/
namespace ParS
open Sx LexS Go Go.RowKit
def rnF (old new:Wd):Wd→Wd:=fun n=>if n=old then new else n
theorem rn_inj {old new a b:Wd} (ha:a≠new) (hb:b≠new) (h:rnF old new a=rnF old new b):a=b:=by
  unfold rnF at h
  split at h <;> split at h
  · rename_i h1 h2;rw [h1,h2]
  · exact absurd h.symm hb
  · exact absurd h ha
  · exact h
theorem rn_ok {old new:Wd} (hn:isName new=true) {a:Wd} (ha:isName a=true):isName (rnF old new a)=true:=by
  unfold rnF;split
  · exact hn
  · exact ha
section
variable {old new:Wd} {h:Int→Int}
abbrev NoN (new:Wd) (l:List Dc):Prop:=∀ d∈l,d.nm≠new
theorem idxO_cons (d:Dc) (l:List Dc) (nm:Wd):idxO (d::l) nm=if d.nm=nm then some 0 else (idxO l nm).map (·+1):=by
  unfold idxO
  rw [List.findIdx?_cons]
  by_cases hd:d.nm=nm <;> simp [hd]
theorem idxO_ren {nm:Wd} (hn:nm≠new):∀ {l:List Dc},NoN new l→idxO (l.map (trD (rnF old new) h)) (rnF old new nm)=idxO l nm
  | [],_=>rfl
  | d::l,hl=>by
    rw [List.map_cons,idxO_cons,idxO_cons,idxO_ren hn (fun x hx=>hl x (.tail _ hx))]
    by_cases hd:d.nm=nm
    · rw [if_pos hd,if_pos (by show rnF old new d.nm=_;rw [hd])]
    · rw [if_neg hd,if_neg (show ¬ (trD (rnF old new) h d).nm=rnF old new nm from fun e=>hd (rn_inj (hl d (.head _)) hn e))]
theorem idxI_ren {nm:Wd} (hn:nm≠new) {l:List Dc} (hl:NoN new l):idxI (l.map (trD (rnF old new) h)) (rnF old new nm)=idxI l nm:=by unfold idxI;rw [idxO_ren hn hl]
variable {lo sh lk:List Dc} {V W G:Wd→Bool}
abbrev trDs (old new:Wd) (h:Int→Int) (l:List Dc):List Dc:=l.map (trD (rnF old new) h)
theorem va_ren (hlo:NoN new lo) (hsh:NoN new sh) (hV:V new=false):∀ (n:Nat) (e:Ex),SizeOf.sizeOf e=n→∀ d,ckE V e d=true→∀ st,vaL (trDs old new h lo) (trDs old new h sh) (trE (rnF old new) h e) st=vaL lo sh e st:=by
  intro n
  refine Nat.strongRecOn n fun n ih=>?_
  rintro ⟨k,op,wd,nm,kids,a⟩ hn d hc st
  rw [ckE] at hc
  simp only [Bool.and_eq_true,Bool.or_eq_true,Bool.not_eq_true',decide_eq_false_iff_not,decide_eq_true_eq] at hc
  obtain⟨⟨hc1,-⟩,hc2⟩:=hc
  by_cases k1:k=1
  · subst k1;rw [trE,va_1,va_1]
  by_cases k2:k=2
  · subst k2
    have hn:nm≠new:=fun e=>by
      have:=hc1.resolve_left (by simp)
      rw [e,hV] at this;cases this
    rw [trE,va_2,va_2,idxO_ren hn hlo,idxI_ren hn hsh]
  match kids,hn,hc2 with
  | [x],hn,hc2=>
    simp only [ckEs,Bool.and_true] at hc2
    rw [trE,trEs,trEs,va_u _ _ k1 k2,va_u _ _ k1 k2,ih _ (by rw [← hn];simp;omega) x rfl _ hc2]
  | [x,y],hn,hc2=>
    simp only [ckEs,Bool.and_true,Bool.and_eq_true] at hc2
    rw [trE,trEs,trEs,trEs,va_b _ _ k1 k2,va_b _ _ k1 k2,ih _ (by rw [← hn];simp;omega) x rfl _ hc2.1,ih _ (by rw [← hn];simp;omega) y rfl _ hc2.2]
  | [],hn,hc2=>rw [trE,trEs,va_0 _ _ k1 k2 _ _ _ _ _ _ (by simp) (by simp),va_0 _ _ k1 k2 _ _ _ _ _ _ (by simp) (by simp)]
  | x::y::z::r,hn,hc2=>rw [trE,va_0 _ _ k1 k2 _ _ _ _ _ _ (by simp [trEs]) (by simp [trEs]),va_0 _ _ k1 k2 _ _ _ _ _ _ (by simp) (by simp)]
theorem gi_ren (hlo:NoN new lo) (hsh:NoN new sh) {nm:Wd} (hn:nm≠new) (v:Vl) (st:LS):giL (trDs old new h lo) (trDs old new h sh) (rnF old new nm) v st=giL lo sh nm v st:=by
  unfold giL;rw [idxO_ren hn hlo,idxI_ren hn hsh]
theorem sw_ren (hlo:NoN new lo) (hsh:NoN new sh) {nm other:Wd} (hn:nm≠new) (ho:other≠new) (v:Vl) (st:LS):swL (trDs old new h lo) (trDs old new h sh) (rnF old new nm) (rnF old new other) v st=swL lo sh nm other v st:=by
  unfold swL;rw [idxO_ren hn hlo,idxI_ren ho hsh,gi_ren hlo hsh hn]
theorem ne_of {V:Wd→Bool} (hV:V new=false) {nm:Wd} (h:V nm=true):nm≠new:=fun e=>by rw [e,hV] at h;cases h
mutual
theorem sm_ren (hlo:NoN new lo) (hsh:NoN new sh) (hlk:NoN new lk) (hV:V new=false) (hW:W new=false) (hG:G new=false):∀ (s:Sm),ckS V W G s=true→∀ st,smL (trDs old new h lo) (trDs old new h sh) (trDs old new h lk) (trS (rnF old new) h s) st=smL lo sh lk s st
  | .mk k nm other e body els a=>by
    intro hc st
    simp only [ckS,Bool.and_eq_true,Bool.or_eq_true,Bool.not_eq_true',decide_eq_false_iff_not] at hc
    obtain⟨⟨⟨⟨⟨c1,c2⟩,c5⟩,ce⟩,cb⟩,cel⟩:=hc
    have hbd:=bl_ren hlo hsh hlk hV hW hG body cb
    have hel:=bl_ren hlo hsh hlk hV hW hG els cel
    by_cases he:e.length=1
    · obtain⟨x,rfl⟩:=List.length_eq_one_iff.1 he
      simp only [ckEs,Bool.and_true] at ce
      have hva:=fun st=>va_ren (old:=old) (h:=h) hlo hsh hV _ x rfl _ ce st
      rw [trS,trEs,trEs]
      by_cases k1:k=1
      · subst k1
        rw [sm_e1,sm_e1,hva,gi_ren hlo hsh (ne_of hV (c1.resolve_left (by simp)))]
      by_cases k2:k=2
      · subst k2
        have c2':=c2.resolve_left (by simp)
        rw [sm_e2,sm_e2,hva,sw_ren hlo hsh (ne_of hV c2'.1) (ne_of hW c2'.2)]
      have h2:∀ r,c2L (lo:=trDs old new h lo) (sh:=trDs old new h sh) (lk:=trDs old new h lk) (trSs (rnF old new) h body) r=c2L (lo:=lo) (sh:=sh) (lk:=lk) body r:=fun r=>hbd _
      have h3:∀ r,c3L (lo:=trDs old new h lo) (sh:=trDs old new h sh) (lk:=trDs old new h lk) (trSs (rnF old new) h body) (trSs (rnF old new) h els) r=c3L (lo:=lo) (sh:=sh) (lk:=lk) body els r:=fun r=>by unfold c3L;rw [h2,hel]
      by_cases k3:k=3
      · subst k3
        rw [sm_e3,sm_e3,hva,h2,h3]
      by_cases k4:k=4
      · subst k4
        rw [sm_e4,sm_e4,hva,h2]
      rw [sm_e6 k1 k2 k3 k4,sm_e6 k1 k2 k3 k4,hva]
    · have he2:(trEs (rnF old new) h e).length≠1:=by rw [trEs_map,List.length_map];exact he
      rw [trS]
      by_cases k5:k=5
      · subst k5
        rw [sm_e5 _ _ _ _ _ _ _ he,sm_e5 _ _ _ _ _ _ _ he2,idxI_ren (ne_of hG (c5.resolve_left (by simp))) hlk,hbd]
      · rw [sm_e7 k5 _ _ _ _ _ _ _ he,sm_e7 k5 _ _ _ _ _ _ _ he2]
termination_by structural s=>s
theorem bl_ren (hlo:NoN new lo) (hsh:NoN new sh) (hlk:NoN new lk) (hV:V new=false) (hW:W new=false) (hG:G new=false):∀ (l:List Sm),ckSs V W G l=true→∀ st,blL (trDs old new h lo) (trDs old new h sh) (trDs old new h lk) (trSs (rnF old new) h l) st=blL lo sh lk l st
  | []=>by intro _ st;rw [trSs,blL,blL]
  | s::r=>by
    intro hc st
    rw [ckSs,Bool.and_eq_true] at hc
    rw [trSs,blL,blL]
    split
    · rfl
    · rw [sm_ren hlo hsh hlk hV hW hG s hc.1,bl_ren hlo hsh hlk hV hW hG r hc.2]
termination_by structural l=>l
end
theorem gr_ren (hlo:NoN new lo) (hsh:NoN new sh) (hlk:NoN new lk) (hV:V new=false) (hW:W new=false) (hG:G new=false) {body:List Sm} (hc:ckSs V W G body=true):grL (trDs old new h lo) (trDs old new h sh) (trDs old new h lk) (trSs (rnF old new) h body)=grL lo sh lk body:=by
  unfold grL
  rw [bl_ren hlo hsh hlk hV hW hG body hc,List.length_map]
theorem mem_ren {nm:Wd} (hn:nm≠new) {l:List Wd} (hl:∀ x∈l,x≠new):rnF old new nm∈l.map (rnF old new)↔nm∈l:=by
  constructor
  · intro hm
    obtain⟨x,hx,e⟩:=List.mem_map.1 hm
    rw [rn_inj hn (hl x hx) e.symm];exact hx
  · exact fun hm=>List.mem_map_of_mem hm
theorem nmL_ren (l:List Dc):nmL (trDs old new h l)=(nmL l).map (rnF old new):=by simp [nmL,trDs,trD,Function.comp_def]
theorem ckDs_ren (mx:Nat):∀ {seen:List Wd} {l:List Dc} {i:Nat},(∀ x∈seen,x≠new)→NoN new l→ckDs mx (seen.map (rnF old new)) (trDs old new h l) i=ckDs mx seen l i
  | seen,[],i,_,_=>rfl
  | seen,d::r,i,hs,hl=>by
    have hd:=hl d (.head _)
    have ih:=ckDs_ren mx (seen:=seen++[d.nm]) (l:=r) (i:=i+1) (fun x hx=>by
      rcases List.mem_append.1 hx with hx|hx
      · exact hs x hx
      · simp only [List.mem_singleton] at hx;rw [hx];exact hd) (fun x hx=>hl x (.tail _ hx))
    rw [List.map_append,List.map_cons,List.map_nil] at ih
    show (!decide (rnF old new d.nm∈seen.map (rnF old new)) && _ && ckDs mx (seen.map (rnF old new)++[rnF old new d.nm]) (trDs old new h r) (i+1))=_
    rw [ih,ckDs]
    congr 3
    exact decide_eq_decide.2 (mem_ren hd hs)
theorem ckE_ren {V':Wd→Bool} (hV:∀ nm,V nm=true→V' (rnF old new nm)=true):∀ (n:Nat) (e:Ex),SizeOf.sizeOf e=n→∀ d,ckE V e d=true→ckE V' (trE (rnF old new) h e) d=true:=by
  intro n
  refine Nat.strongRecOn n fun n ih=>?_
  rintro ⟨k,op,wd,nm,kids,a⟩ hn d hc
  rw [ckE] at hc
  simp only [Bool.and_eq_true,Bool.or_eq_true,Bool.not_eq_true',decide_eq_false_iff_not,decide_eq_true_eq] at hc
  obtain⟨⟨hc1,hd⟩,hc2⟩:=hc
  have hks:∀ (l:List Ex),(∀ x∈l,SizeOf.sizeOf x<n)→ckEs V l (d+1)=true→ckEs V' (trEs (rnF old new) h l) (d+1)=true:=by
    intro l
    induction l with
    | nil=>intro _ _;rfl
    | cons x r ihr=>
      intro hl hcl
      rw [ckEs,Bool.and_eq_true] at hcl
      rw [trEs,ckEs,Bool.and_eq_true]
      exact⟨ih _ (hl x (.head _)) x rfl _ hcl.1,ihr (fun y hy=>hl y (.tail _ hy)) hcl.2⟩
  rw [trE,ckE]
  simp only [Bool.and_eq_true,Bool.or_eq_true,Bool.not_eq_true',decide_eq_false_iff_not,decide_eq_true_eq]
  exact⟨⟨hc1.imp id (hV nm),hd⟩,hks kids (fun x hx=>by have:=List.sizeOf_lt_of_mem hx;rw [← hn];simp;omega) hc2⟩
theorem ckEs_ren {V':Wd→Bool} (hV:∀ nm,V nm=true→V' (rnF old new nm)=true):∀ (l:List Ex) (d:Nat),ckEs V l d=true→ckEs V' (trEs (rnF old new) h l) d=true
  | [],d,_=>rfl
  | x::r,d,hc=>by
    rw [ckEs,Bool.and_eq_true] at hc
    rw [trEs,ckEs,Bool.and_eq_true]
    exact⟨ckE_ren hV _ x rfl _ hc.1,ckEs_ren hV r d hc.2⟩
mutual
theorem ckS_ren {V' W' G':Wd→Bool} (hV:∀ nm,V nm=true→V' (rnF old new nm)=true) (hW:∀ nm,W nm=true→W' (rnF old new nm)=true) (hG:∀ nm,G nm=true→G' (rnF old new nm)=true):∀ (s:Sm),ckS V W G s=true→ckS V' W' G' (trS (rnF old new) h s)=true
  | .mk k nm other e body els a=>by
    intro hc
    simp only [ckS,Bool.and_eq_true,Bool.or_eq_true,Bool.not_eq_true',decide_eq_false_iff_not] at hc
    obtain⟨⟨⟨⟨⟨c1,c2⟩,c5⟩,ce⟩,cb⟩,cel⟩:=hc
    simp only [trS,ckS,Bool.and_eq_true,Bool.or_eq_true,Bool.not_eq_true',decide_eq_false_iff_not]
    exact⟨⟨⟨⟨⟨c1.imp id (hV _),c2.imp id fun ⟨a,b⟩=>⟨hV _ a,hW _ b⟩⟩,c5.imp id (hG _)⟩,ckEs_ren hV _ _ ce⟩,ckSs_ren hV hW hG body cb⟩,ckSs_ren hV hW hG els cel⟩
termination_by structural s=>s
theorem ckSs_ren {V' W' G':Wd→Bool} (hV:∀ nm,V nm=true→V' (rnF old new nm)=true) (hW:∀ nm,W nm=true→W' (rnF old new nm)=true) (hG:∀ nm,G nm=true→G' (rnF old new nm)=true):∀ (l:List Sm),ckSs V W G l=true→ckSs V' W' G' (trSs (rnF old new) h l)=true
  | []=>fun _=>rfl
  | s::r=>by
    intro hc
    rw [ckSs,Bool.and_eq_true] at hc
    rw [trSs,ckSs,Bool.and_eq_true]
    exact⟨ckS_ren hV hW hG s hc.1,ckSs_ren hV hW hG r hc.2⟩
termination_by structural l=>l
end
abbrev NoW (new:Wd) (l:List Wd):Prop:=∀ x∈l,x≠new
theorem NoN.w {l:List Dc} (h:NoN new l):NoW new (nmL l):=fun x hx=>by
  obtain⟨d,hd,rfl⟩:=List.mem_map.1 hx
  exact h d hd
theorem vrN_ren {loc sh:List Wd} {nm:Wd} (hc:vrN loc sh nm=true):vrN (loc.map (rnF old new)) (sh.map (rnF old new)) (rnF old new nm)=true:=by
  simp only [vrN,Bool.or_eq_true,decide_eq_true_eq] at hc ⊢
  exact hc.imp List.mem_map_of_mem List.mem_map_of_mem
theorem shN_ren {loc sh:List Wd} (hl:NoW new loc) (hs:NoW new sh) {nm:Wd} (hc:shN loc sh nm=true):shN (loc.map (rnF old new)) (sh.map (rnF old new)) (rnF old new nm)=true:=by
  simp only [shN,Bool.and_eq_true,Bool.not_eq_true',decide_eq_false_iff_not,decide_eq_true_eq] at hc ⊢
  exact⟨fun e=>hc.1 ((mem_ren (hs _ hc.2) hl).1 e),List.mem_map_of_mem hc.2⟩
theorem lkN_ren {loc sh lk:List Wd} (hl:NoW new loc) (hs:NoW new sh) (hk:NoW new lk) {nm:Wd} (hc:lkN loc sh lk nm=true):lkN (loc.map (rnF old new)) (sh.map (rnF old new)) (lk.map (rnF old new)) (rnF old new nm)=true:=by
  simp only [lkN,Bool.and_eq_true,Bool.not_eq_true',decide_eq_false_iff_not,decide_eq_true_eq] at hc ⊢
  exact⟨⟨fun e=>hc.1.1 ((mem_ren (hk _ hc.2) hl).1 e),fun e=>hc.1.2 ((mem_ren (hk _ hc.2) hs).1 e)⟩,List.mem_map_of_mem hc.2⟩
theorem ckT_ren {sh lk:List Wd} (hs:NoW new sh) (hk:NoW new lk) {t:Th} (hl:NoN new t.locals) (hc:ckT sh lk t=true):ckT (sh.map (rnF old new)) (lk.map (rnF old new)) (trT (rnF old new) h t)=true:=by
  unfold ckT at hc ⊢
  rw [Bool.and_eq_true] at hc ⊢
  have e:nmL (trT (rnF old new) h t).locals=(nmL t.locals).map (rnF old new):=nmL_ren _
  refine⟨?_,?_⟩
  · rw [← List.map_append]
    show ckDs 64 _ (trDs old new h t.locals) 0=true
    rw [ckDs_ren 64 (fun x hx=>by
      rcases List.mem_append.1 hx with hx|hx
      · exact hs x hx
      · exact hk x hx) hl]
    exact hc.1
  · rw [e]
    exact ckSs_ren (fun nm hn=>vrN_ren hn) (fun nm hn=>shN_ren hl.w hs hn) (fun nm hn=>lkN_ren hl.w hs hk hn) _ hc.2
theorem ckTs_ren {sh lk:List Wd} (hs:NoW new sh) (hk:NoW new lk):∀ {seen:List Wd} {l:List Th} {i:Nat},NoW new seen→(∀ t∈l,t.nm≠new∧NoN new t.locals)→ckTs sh lk seen l i=true→ckTs (sh.map (rnF old new)) (lk.map (rnF old new)) (seen.map (rnF old new)) (l.map (trT (rnF old new) h)) i=true
  | seen,[],i,_,_,_=>rfl
  | seen,t::r,i,hse,hl,hc=>by
    rw [ckTs] at hc
    simp only [Bool.and_eq_true,Bool.not_eq_true',decide_eq_false_iff_not,decide_eq_true_eq] at hc
    obtain⟨⟨⟨c1,c2⟩,c3⟩,c4⟩:=hc
    obtain⟨ht,hlo⟩:=hl t (.head _)
    have ih:=ckTs_ren hs hk (seen:=seen++[t.nm]) (l:=r) (i:=i+1) (fun x hx=>by
      rcases List.mem_append.1 hx with hx|hx
      · exact hse x hx
      · simp only [List.mem_singleton] at hx;rw [hx];exact ht) (fun x hx=>hl x (.tail _ hx)) c4
    rw [List.map_append,List.map_cons,List.map_nil] at ih
    rw [List.map_cons,ckTs]
    simp only [Bool.and_eq_true,Bool.not_eq_true',decide_eq_false_iff_not,decide_eq_true_eq]
    exact⟨⟨⟨fun e=>c1 ((mem_ren ht hse).1 e),c2⟩,ckT_ren hs hk hlo c3⟩,ih⟩
structure NoP (new:Wd) (p:Pg):Prop where
  sh:NoN new p.shared
  lk:NoN new p.locks
  th:∀ t∈p.threads,t.nm≠new∧NoN new t.locals
theorem ckP_ren {p:Pg} (hn:NoP new p) (hc:ckP p=true):ckP (trP (rnF old new) h p)=true:=by
  unfold ckP at hc ⊢
  simp only [Bool.and_eq_true] at hc ⊢
  obtain⟨⟨c1,c2⟩,c3⟩:=hc
  have e1:nmL (trP (rnF old new) h p).shared=(nmL p.shared).map (rnF old new):=nmL_ren _
  have e2:nmL (trP (rnF old new) h p).locks=(nmL p.locks).map (rnF old new):=nmL_ren _
  rw [e1,e2]
  refine⟨⟨?_,?_⟩,?_⟩
  · have:=ckDs_ren (old:=old) (h:=h) 64 (seen:=[]) (i:=0) (fun x hx=>by simp at hx) hn.sh
    rw [List.map_nil] at this
    exact this.trans c1
  · exact(ckDs_ren (h:=h) 16 hn.sh.w hn.lk).trans c2
  · rw [← List.map_append]
    exact ckTs_ren hn.sh.w hn.lk.w (fun x hx=>by
      rcases List.mem_append.1 hx with hx|hx
      · exact hn.sh.w x hx
      · exact hn.lk.w x hx) hn.th c3
theorem ckTs_get {sh lk:List Wd}:∀ {seen:List Wd} {l:List Th} {i:Nat},ckTs sh lk seen l i=true→∀ t∈l,ckT sh lk t=true
  | seen,[],i,_,t,ht=>by simp at ht
  | seen,u::r,i,hc,t,ht=>by
    rw [ckTs] at hc
    simp only [Bool.and_eq_true] at hc
    rcases List.mem_cons.1 ht with rfl|ht
    · exact hc.1.2
    · exact ckTs_get hc.2 t ht
theorem grT_ren {p:Pg} (hn:NoP new p) {t:Th} (hlo:NoN new t.locals) (hct:ckT (nmL p.shared) (nmL p.locks) t=true):grL (trDs old new h t.locals) (trDs old new h p.shared) (trDs old new h p.locks) (trSs (rnF old new) h t.body)=grL t.locals p.shared p.locks t.body:=by
  unfold ckT at hct
  rw [Bool.and_eq_true] at hct
  have nv:∀ {l:List Wd},NoW new l→new∉l:=fun hl hm=>hl _ hm rfl
  have hV:vrN (nmL t.locals) (nmL p.shared) new=false:=by simp only [vrN,Bool.or_eq_false_iff,decide_eq_false_iff_not];exact⟨nv hlo.w,nv hn.sh.w⟩
  have hW:shN (nmL t.locals) (nmL p.shared) new=false:=by simp only [shN,Bool.and_eq_false_iff,decide_eq_false_iff_not];exact .inr (nv hn.sh.w)
  have hG:lkN (nmL t.locals) (nmL p.shared) (nmL p.locks) new=false:=by simp only [lkN,Bool.and_eq_false_iff,decide_eq_false_iff_not];exact .inr (nv hn.lk.w)
  exact gr_ren (old:=old) (h:=h) hlo hn.sh hn.lk hV hW hG hct.2
end
end ParS
/- The engine: make([]T,n);slices and nil. -/
namespace Sx
open Go Go.RowKit
section
variable {P:Program} {n:Fr} {L:List Oper} {Q:Exit→Act→World→Prop} {kn:Kn} {w w0:World} {M:List Nat} {hs:List Res} {rest:List Oper}
variable {d ty:Nat} {pos:String} {aft:Array Edge} {g:Option (Nat×Bool)}
variable {N:Act→World→Prop}
theorem y_eqsn {T U E m c:Nat} {x y:Operand} {oa:Option Addr} (hx:evO kn x=some (.slice oa m c)) (hy:evO kn y=some (.slice none 0 0)) (ht:P.underlying T=some (.slice E)) :
    Y P n kn w ⟨some d,.binOp .eql T x y U,ty,pos,aft,g⟩ (.bool oa.isNone):=y_bo hx hy (by
  have h1:(eqGuard .eql T x y (.slice oa m c) (.slice none 0 0)).run P w=.ok () w:=by cases oa <;> rfl
  have h2:(Op.equalIn (9999+1) T (.slice oa m c) (.slice none 0 0)).run P w=.ok oa.isNone w:=by
    unfold Op.equalIn
    cases oa <;> simp [Sem.run_bind,run_underlying ht]
  rw [Sem.run_bind,h1,Result.andThen_ok]
  have h3:binOp .eql T (.slice oa m c) (.slice none 0 0)=(do pure (.bool (← Op.equal T (.slice oa m c) (.slice none 0 0)))):=by cases oa <;> rfl
  rw [h3,Sem.run_bind]
  have h4:(Op.equal T (.slice oa m c) (.slice none 0 0)).run P w=.ok oa.isNone w:=h2
  rw [h4];rfl)
theorem made1 (z:Value) (c:Nat) (hz:z.cells=#[z]):(madeCells z.cells (c*1)).toList=List.replicate c z:=by
  rw [hz,Nat.mul_one]
  apply List.ext_getElem?
  intro i
  by_cases h:i<c
  · simp [madeCells,h,List.getElem?_replicate,Nat.mod_one]
  · rw [List.getElem?_eq_none (by simp [madeCells];omega),List.getElem?_eq_none (by simp;omega)]
theorem e_mkN (st:St w0 M hs w) {T E c:Nat} {x y:Operand} {kl kc:IntKind} {z:Value} {ti:TypeInfo} (hw:gd L kn g=some true) (hd:okDst n (some d)=true)
    (hx:evO kn x=some (.int kl (c:Int))) (hy:evO kn y=some (.int kc (c:Int)))
    (ht:P.underlying T=some (.slice E)) (hinfo:P.info? E=some ti) (hz:ti.zero=some z) (hsize:ti.size=1) (hzc:z.cells=#[z]) (hcells:c≤16777216) (hbytes:ti.bytes*c≤281474976710656) (h63:c≤maxLen)
    (next:∀ b w',w0.heap.size≤b→St w0 M (.own (.slice (some ⟨b,0,none⟩) c c) E 1 c (List.replicate c z)::hs) w'→vN n N ((d,.slice (some ⟨b,0,none⟩) c c)::kn) w') :
    vS P n L Q ⟨some d,.makeSlice T x y,ty,pos,aft,g⟩ N kn w:=by
  obtain⟨w',hr,ho,hg⟩:=run_makeSlice_full (P:=P) w w.heap.size T E ti z 1 ht hinfo hz hsize kl kc c (by omega) hbytes h63 (Nat.le_refl _)
  rw [made1 z c hzc] at ho
  refine e_run hw hd (w':=w') (fun a ha=>?_) (next _ w' st.chg.size (st.pushOwn (Chg.of_grownBy_none hg) ho))
  simp only [execOp,ha.ev hx,ha.ev hy,Sem.run_bind,hr]
  rfl
end
end Sx
/- The engine: pointers and nil;arrays of single cells;rows that are blocks;a cell that a drawn statement looks at. -/
namespace Sx
open Go Go.RowKit
section
variable {P:Program} {n:Fr} {L:List Oper} {Q:Exit→Act→World→Prop} {kn:Kn} {w w0:World} {M:List Nat} {hs:List Res} {rest:List Oper}
variable {d ty:Nat} {pos:String} {aft:Array Edge} {g:Option (Nat×Bool)}
variable {N:Act→World→Prop}
theorem own_blk {base E size len b:Nat} {xs:List Value} (h:w.ownsRow base E size (.slice (some ⟨b,0,none⟩) len len) len xs):w.heap[b]?=some (.cells xs.toArray E (0,0)):=by
  obtain⟨hx,h2⟩:=h
  rcases h2 with ⟨h0,-⟩|⟨g,cap,cur,h1,-,h3,-,-,h4,h5⟩
  · cases h0
  · simp only [Value.slice.injEq,Option.some.injEq,Addr.mk.injEq,and_true,true_and] at h1
    obtain⟨rfl,rfl⟩:=h1
    have:cur.toList=xs:=by rw [← h5,List.take_of_length_le (by simp [h4])]
    rw [h3,← this]
theorem St.ownBlk {b E size len:Nat} {xs:List Value} (st:St w0 M (.own (.slice (some ⟨b,0,none⟩) len len) E size len xs::hs) w):St w0 M (.blk b (.cells xs.toArray E (0,0))::hs) w:=
  st.turn0 (fun k hk=>by simpa [Res.at?,Value.ownBlock] using hk) (own_blk (st.res (i:=0) rfl))
abbrev iL (l:List Int):List Value:=l.map fun z=>Value.int .i64 z
theorem iL_nth {l:List Int} {k:Nat} (h:k<l.length):nth (iL l) (k*1)=some (.int .i64 (l.getD k 0)):=by
  rw [nth_eq,Nat.mul_one,List.getElem?_map,List.getElem?_eq_getElem h,List.getD_eq_getElem?_getD,List.getElem?_eq_getElem h];rfl
end
end Sx
/- What is read of a tree that lies in rows. -/
namespace Sx
open Go Go.RowKit
variable {w:World} {S:Nat→Prop}
end Sx
namespace Go.Proofs.YtkhpdpenlnhbiaaGreatDoor
open Go.RowKit Sx LexS ParS _root_.Go.Proofs.Tryz
theorem idxO_none {l:List Dc} {nm:Wd} (h:∀ d∈l,d.nm≠nm):idxO l nm=none:=by
 unfold idxO
 rw [List.findIdx?_eq_none_iff]
 intro d hd
 simpa using h d hd
theorem idxO_some {l:List Dc} {nm:Wd} {j:Nat} {x:Dc} (hx:l[j]?=some x) (h:x.nm=nm) (hb:∀ d∈l.take j,d.nm≠nm):idxO l nm=some j:=by
 unfold idxO
 obtain⟨hj,e⟩:=List.getElem?_eq_some_iff.1 hx
 rw [List.findIdx?_eq_some_iff_getElem]
 refine⟨hj,by rw [e];simpa using h,fun k hk=>?_⟩
 have hm:l[k]∈l.take j:=by rw [List.mem_take_iff_getElem];exact⟨k,by omega,rfl⟩
 simpa using hb _ hm
theorem find1_any (d:Dc) (nb E:Nat) (fz:Nat×Nat) (nm:Wd) (w:World) (hn:w.heap[nb]?=some (.cells [str nm].toArray E fz)):Ret Tryz.prog 116 [.agg (dcL d).toArray,.pointer (some ⟨nb,0,none⟩)] w fun v w'=>v=.bool (decide (d.nm=nm))∧Chg [] w w':=by
 refine ret_of [_,_] func116 rfl ntmps116 rfl ?_
 have st:=St.init w []
 obtain⟨w0,rfl⟩:∃ w0,w0=w:=⟨_,rfl⟩
 replace st:=St.of1 [] hn
 refine sr ?_
 refine vc_e (e_bx (l:=[_,_,_]) st rfl rfl rfl rfl ?_)
 intro b2 w hb2 st
 refine ya ?_
 refine et (vk2 1 2 (sr ?_))
 refine vy (y_fa0 rfl underlying134 rfl rfl sizeOf9 rfl) ?_
 refine yl st 0 isAgg9 ?_
 refine yl st 1 isAgg9 ?_
 refine vy (y_eqs rfl rfl) ?_
 refine ya ?_
 refine et (vk1 3 (vc_ret ?_))
 refine vr1 st results116 ?_
 exact⟨rfl,st.chg⟩
theorem index_any (l:List Dc) (oa:Option Addr) (c nb E:Nat) (fz:Nat×Nat) (nm:Wd) (n0:Nat) (w:World) (hD:DcRow w (·<n0) oa l) (hlm:l.length≤1099511627776) (hn:w.heap[nb]?=some (.cells [str nm].toArray E fz)):Ret Tryz.prog 115 [.slice oa l.length c,.func (.func 116) #[] [.pointer (some ⟨nb,0,none⟩)].toArray] w fun v w'=>v=.int .i64 (idxI l nm)∧Chg [] w w':=by
 refine ret_of [_,_] func115 rfl ntmps115 rfl ?_
 have st:=St.init w []
 obtain⟨w0,rfl⟩:∃ w0,w0=w:=⟨_,rfl⟩
 replace st:=St.of1 [] hn
 have hD0:=hD
 refine sr ?_
 refine ya ?_
 refine et (vk2 0 1 (vc_seq (sr ?_)))
 refine ym ?_
 refine vy (y_lensl rfl underlying23) ?_
 refine ym ?_
 refine et (vk4 0 1 7 8 (vc_block ?_))
 refine vc_loop (w0:=w0) (M:=[]) (fun (j:Nat)=>[(0,.slice oa l.length c),(1,.func (.func 116) #[] [.pointer (some ⟨nb,0,none⟩)].toArray),(7,.int .i64 (l.length:Int)),(8,.int .i64 (j:Int))]) (fun _=>[.blk nb (.cells [str nm].toArray E fz)]) (fun j w'=>j≤l.length∧∀ d∈l.take j,d.nm≠nm) (fun j=>l.length - j) 0 ⟨rfl,rfl,rfl,rfl,trivial⟩ st ⟨by simp,by simp⟩ ?_
 clear st
 rintro j w ⟨hj,hb⟩ st
 refine sr ?_
 refine vy (y_lss rfl rfl) ?_
 refine et (vk5 0 1 7 8 9 (vc_seq ?_))
 refine vif ?_ ?_
 ·intro hc9
  try simp only [dn] at hc9
  have stK:=st
  obtain⟨x,hx⟩:∃ x,l[j]?=some x:=⟨_,List.getElem?_eq_getElem (by omega)⟩
  obtain⟨gb,go,rfl,hgS,hgl,hg⟩:=DcRow.at hD (by omega)
  have hc:=hg j x hx
  have st:=stK
  refine kt (vk4 0 1 7 8 (vc_seq (vc_block (sr ?_))))
  refine ym ?_
  refine ya ?_
  refine et (vk5 0 1 5 7 8 (sr ?_))
  iterate 3 refine ym ?_
  refine vy (y_ia (k:=j) rfl rfl underlying23 sizeOf134 rfl (by omega)) ?_
  refine vy (y_ldca (dcL x) rfl isAgg134 sizeOf134 rfl (fun i v hi=>st.chg.cell (hc i v hi) (by simp))) ?_
  refine vc_e (e_callv [_] rfl rfl rfl call116 rfl (find1_any x nb _ _ nm _ (st.res (i:=0) rfl)) ?_)
  rintro _ w ⟨rfl,cw⟩
  replace st:=st.call0 cw
  refine et (vk6 0 1 5 7 8 16 ?_)
  refine vif ?_ ?_
  ·intro hc16
   try simp only [dn] at hc16
   refine sr ?_
   refine ym ?_
   refine ya ?_
   refine et (vk1 4 (vc_ret (vq_block_ret (vq_then_ret (vq_then_ret (vq_block_ret (vq_then_ret ?_)))))))
   refine vr1 st results115 ?_
   refine⟨?_,st.chg⟩
   unfold idxI
   rw [idxO_some hx (by simpa using hc16) hb]
  intro hc16
  try simp only [dn] at hc16
  refine vc_code_skip (vq_block (vq_then (vk4 0 1 7 8 (vc_region ?_))))
  refine vy (y_add rfl rfl (by omega:_=((j+1:Nat):Int)) (by omega) (by omega)) ?_
  refine ym ?_
  refine vc_end ?_
  refine vq_again (j+1)  ⟨rfl,rfl,rfl,rfl,trivial⟩ st ?_ ?_
  ·refine⟨by omega,fun d hd=>?_⟩
   rw [List.take_succ_eq_append_getElem (by omega)] at hd
   rcases List.mem_append.1 hd with hd|hd
   ·exact hb d hd
   ·simp only [List.mem_singleton] at hd
    have e:=(List.getElem?_eq_some_iff.1 hx).2
    rw [hd,e];simpa using hc16
  omega
 intro hc9
 try simp only [dn] at hc9
 have hj2:j=l.length:=by omega
 subst hj2
 rw [List.take_length] at hb
 refine vc_exit (vq_then_exit (vq_then_exit (vq_block_exit (vq_then (vc_keep [] trivial (sr ?_))))))
 refine ya ?_
 refine et (vk1 4 (vc_ret ?_))
 refine vr1 st results115 ?_
 refine⟨?_,st.chg⟩
 unfold idxI
 rw [idxO_none hb]
theorem cfind_any (l:List Dc) (oa:Option Addr) (c:Nat) (nm:Wd) (n0:Nat) (w:World) (hD:DcRow w (·<n0) oa l) (hlm:l.length≤1099511627776):Ret Tryz.prog 73 [.slice oa l.length c,str nm] w fun v w'=>v=.int .i64 (idxI l nm)∧Chg [] w w':=by
 refine ret_of [_,_] func73 rfl ntmps73 rfl ?_
 have st:=St.init w []
 obtain⟨w0,rfl⟩:∃ w0,w0=w:=⟨_,rfl⟩
 refine sr ?_
 refine vc_e (e_bx (l:=[_]) st rfl rfl rfl rfl ?_)
 intro b3 w hb3 st
 refine ya ?_
 refine et (vk2 0 3 (sr ?_))
 refine ym ?_
 refine vy (y_mf [] [_] rfl rfl) ?_
 refine vc_e (e_call [_,_] rfl rfl call115 rfl (index_any l oa c _ _ _ nm n0 _ (hD.kept st.sm) hlm (st.res (i:=0) rfl)) ?_)
 rintro _ w ⟨rfl,cw⟩
 replace st:=st.call0 cw
 refine ya ?_
 refine et (vk1 4 (vc_ret ?_))
 refine vr1 st results73 ?_
 exact⟨rfl,st.chg⟩
theorem cshared_any (l:List Dc) (os ol ot:Option Addr) (cs cl ct nl nt:Nat) (nm:Wd) (n0:Nat) (w:World) (hD:DcRow w (·<n0) os l) (hlm:l.length≤1099511627776):Ret Tryz.prog 69 [.agg [.slice os l.length cs,.slice ol nl cl,.slice ot nt ct].toArray,str nm] w fun v w'=>v=.int .i64 (idxI l nm)∧Chg [] w w':=by
 refine ret_of [_,_] func69 rfl ntmps69 rfl ?_
 have st:=St.init w []
 obtain⟨w0,rfl⟩:∃ w0,w0=w:=⟨_,rfl⟩
 refine sr ?_
 refine vc_e (e_bx (l:=[_,_,_]) st rfl rfl rfl rfl ?_)
 intro b2 w hb2 st
 refine ya ?_
 refine et (vk2 1 2 (sr ?_))
 refine vy (y_fa0 rfl underlying26 rfl rfl sizeOf23 rfl) ?_
 refine yl st 0 isAgg23 ?_
 refine ym ?_
 refine vc_e (e_call [_,_] rfl rfl call73 rfl (cfind_any l os cs nm n0 _ (hD.kept st.sm) hlm) ?_)
 rintro _ w ⟨rfl,cw⟩
 replace st:=st.call0 cw
 refine ya ?_
 refine et (vk1 4 (vc_ret ?_))
 refine vr1 st results69 ?_
 exact⟨rfl,st.chg⟩
theorem clock_any (l:List Dc) (os ol ot:Option Addr) (cs cl ct ns nt:Nat) (nm:Wd) (n0:Nat) (w:World) (hD:DcRow w (·<n0) ol l) (hlm:l.length≤1099511627776):Ret Tryz.prog 70 [.agg [.slice os ns cs,.slice ol l.length cl,.slice ot nt ct].toArray,str nm] w fun v w'=>v=.int .i64 (idxI l nm)∧Chg [] w w':=by
 refine ret_of [_,_] func70 rfl ntmps70 rfl ?_
 have st:=St.init w []
 obtain⟨w0,rfl⟩:∃ w0,w0=w:=⟨_,rfl⟩
 refine sr ?_
 refine vc_e (e_bx (l:=[_,_,_]) st rfl rfl rfl rfl ?_)
 intro b2 w hb2 st
 refine ya ?_
 refine et (vk2 1 2 (sr ?_))
 refine yfz 1 underlying26 sizeOf23 ?_
 refine yl st 0 isAgg23 ?_
 refine ym ?_
 refine vc_e (e_call [_,_] rfl rfl call73 rfl (cfind_any l ol cl nm n0 _ (hD.kept st.sm) hlm) ?_)
 rintro _ w ⟨rfl,cw⟩
 replace st:=st.call0 cw
 refine ya ?_
 refine et (vk1 4 (vc_ret ?_))
 refine vr1 st results70 ?_
 exact⟨rfl,st.chg⟩
theorem clocal_any (p:Pg) (t:Th) (k:Nat) (hk:p.threads[k]?=some t) (os ol ot:Option Addr) (cs cl ct ns nl:Nat) (nm:Wd) (n0:Nat) (w:World) (hT:ThRow w (·<n0) ot p.threads) (hlm:t.locals.length≤1099511627776):Ret Tryz.prog 109 [.agg [.slice os ns cs,.slice ol nl cl,.slice ot p.threads.length ct].toArray,.int .i64 (k:Int),str nm] w fun v w'=>v=.int .i64 (idxI t.locals nm)∧Chg [] w w':=by
 refine ret_of [_,_,_] func109 rfl ntmps109 rfl ?_
 have st:=St.init w []
 obtain⟨w0,rfl⟩:∃ w0,w0=w:=⟨_,rfl⟩
 have hkl:=(List.getElem?_eq_some_iff.1 hk).1
 obtain⟨tb,tq,rfl,htS,htl,htg⟩:=ThRow.at hT (by omega)
 obtain⟨oc,ob,cc,cb,hD,hS,hc⟩:=htg k t hk
 refine sr ?_
 refine vc_e (e_bx (l:=[_,_,_]) st rfl rfl rfl rfl ?_)
 intro b3 w hb3 st
 refine ya ?_
 refine et (vk3 1 2 3 (vc_seq (sr ?_)))
 refine ym ?_
 refine vy (y_lss rfl rfl) ?_
 refine vmb ?_ ?_
 ·intro hg9
  exfalso;simp only [decide_eq_true_eq] at hg9;omega
 intro hg9
 try simp only [dn] at hg9
 refine ym ?_
 refine yfz 2 underlying26 sizeOf24 ?_
 refine yl st 0 isAgg24 ?_
 refine vy (y_lensl rfl underlying24) ?_
 refine vy (y_geq rfl rfl) ?_
 refine ypf ?_
 refine et (vk4 1 2 3 15 ?_)
 refine vif ?_ ?_
 ·intro hc15
  exfalso;simp only [decide_eq_true_eq] at hc15;omega
 intro hc15
 try simp only [dn] at hc15
 refine kt (vk3 1 2 3 (sr ?_))
 refine yfz 2 underlying26 sizeOf24 ?_
 refine yl st 0 isAgg24 ?_
 refine ym ?_
 refine vy (y_ia (k:=k) rfl rfl underlying24 sizeOf50 rfl (by omega)) ?_
 refine vy (y_fa (k:=1) rfl underlying50 rfl rfl sizeOf23 rfl) ?_
 refine vy (y_ldc rfl isAgg23 (st.chg.cell (hc 1 _ rfl) (by simp))) ?_
 refine ym ?_
 refine vc_e (e_call [_,_] rfl rfl call73 rfl (cfind_any t.locals oc cc nm n0 _ (hD.kept st.sm) hlm) ?_)
 rintro _ w ⟨rfl,cw⟩
 replace st:=st.call0 cw
 refine ya ?_
 refine et (vk1 6 (vc_ret ?_))
 refine vr1 st results109 ?_
 exact⟨rfl,st.chg⟩
end Go.Proofs.YtkhpdpenlnhbiaaGreatDoor
