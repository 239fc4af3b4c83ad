/- A part of the proof: contracts of functions and plain laws; each theorem says its own conditions. -/
import Derived.Test.YtkhpdpenlnhbiaaGreatDoorTopLoweredSxEng
/- The engine,second part: one law a kind of operation. -/
namespace Sx
open Go Go.RowKit
set_option linter.unusedVariables false
set_option linter.unusedSimpArgs false
def vN (n:Fr) (N:Act→World→Prop) (kn:Kn) (w:World):Prop:=∀ a,K n kn a→N a w
abbrev vcL (P:Program) (n:Fr) (L:List Oper) (Q:Exit→Act→World→Prop) (l:List Oper) (kn:Kn) (w:World):Prop:=
  vN n (wpList P L.toArray Q l) kn w
def vS (P:Program) (n:Fr) (L:List Oper) (Q:Exit→Act→World→Prop) (o:Oper) (N:Act→World→Prop) (kn:Kn) (w:World):Prop:=
  ∀ a,K n kn a→if Region.wanted o (yielded L.toArray a.tmps) then o.wp P a w N Q∨(o.asks P a w∧LetsOut Q) else N (a.put o.dst undef) w
def Y (P:Program) (n:Fr) (kn:Kn) (w:World) (o:Oper) (v:Value):Prop:=∀ a,K n kn a→(execOp a.eval o).run P w=.ok (.value v) w
def vcC (P:Program) (n:Fr) (c:Code) (Q:Exit→Act→World→Prop) (kn:Kn) (w:World):Prop:=
  ∀ a,K n kn a→c.wp P Q a w
def vcQ (n:Fr) (Q:Exit→Act→World→Prop) (e:Exit) (kn:Kn) (w:World):Prop:=
  ∀ a,K n kn a→Q e a w
abbrev str (l:List UInt8):Value:=.string ⟨l.toArray⟩
section
variable {P:Program} {n:Fr} {L:List Oper} {Q:Exit→Act→World→Prop} {kn:Kn} {w w0:World} {M:List Nat} {hs:List Res} {rest:List Oper}
variable {N:Act→World→Prop}
theorem vc_e {o:Oper} (h:vS P n L Q o (wpList P L.toArray Q rest) kn w):vcL P n L Q (o::rest) kn w:=h
theorem e_run {o:Oper} {v:Value} {w':World} (hw:gd L kn o.guard=some true) (hd:okDst n o.dst=true)
    (hrun:∀ a,K n kn a→(execOp a.eval o).run P w=.ok (.value v) w') (next:vN n N (put o.dst v kn) w'):vS P n L Q o N kn w:=by
  intro a ha
  rw [if_pos (ha.gd hw)]
  refine .inl ?_
  unfold Oper.wp
  rw [hrun a ha]
  exact next _ (ha.put hd v)
theorem vc_y {o:Oper} {v:Value} (hw:gd L kn o.guard=some true) (hd:okDst n o.dst=true) (y:Y P n kn w o v) (next:vcL P n L Q rest (put o.dst v kn) w):vcL P n L Q (o::rest) kn w:=
  vc_e (e_run hw hd y next)
theorem e_do {o:Oper} {w':World} (hw:gd L kn o.guard=some true) (hd:o.dst=none)
    (hrun:∀ a,K n kn a→(execOp a.eval o).run P w=.ok .skip w') (next:vN n N kn w'):vS P n L Q o N kn w:=by
  intro a ha
  rw [if_pos (ha.gd hw)]
  refine .inl ?_
  unfold Oper.wp
  rw [hrun a ha]
  have:=next a ha
  simpa [Oper.upon,Act.put,hd] using this
theorem e_skip {o:Oper} (hw:gd L kn o.guard=some false) (hd:okDst n o.dst=true) (next:vN n N (put o.dst undef kn) w):vS P n L Q o N kn w:=by
  intro a ha
  rw [if_neg (by rw [ha.gd hw];simp)]
  exact next _ (ha.put hd undef)
variable {d ty:Nat} {pos:String} {aft:Array Edge} {g:Option (Nat×Bool)}
theorem y_mv {x:Operand} {v:Value} (hx:evO kn x=some v):Y P n kn w ⟨some d,.move x,ty,pos,aft,g⟩ (v):=
  (fun a ha=>by simp only [execOp,ha.ev hx];try rfl)
theorem y_as {x:Operand} {v:Value} (hx:evO kn x=some v):Y P n kn w ⟨some d,.assign x,ty,pos,aft,g⟩ (v):=
  (fun a ha=>by simp only [execOp,ha.ev hx];try rfl)
theorem e_mvb {x:Operand} {b:Bool} (hw:gd L kn g=some true) (hd:okDst n (some d)=true) (hx:evO kn x=some (.bool b))
    (h1:b=true→vN n N ((d,.bool true)::kn) w) (h2:b=false→vN n N ((d,.bool false)::kn) w):vS P n L Q ⟨some d,.move x,ty,pos,aft,g⟩ N kn w:=by
  refine e_run hw hd (y_mv hx) ?_
  cases b
  · exact h2 rfl
  · exact h1 rfl
theorem y_pickt {c x y:Operand} {v:Value} (hc:evO kn c=some (.bool true)) (hx:evO kn x=some v):Y P n kn w ⟨some d,.pick c x y,ty,pos,aft,g⟩ (v):=
  (fun a ha=>by simp only [execOp,ha.ev hx,ha.ev hc];rfl)
theorem y_pickf {c x y:Operand} {v:Value} (hc:evO kn c=some (.bool false)) (hx:evO kn y=some v):Y P n kn w ⟨some d,.pick c x y,ty,pos,aft,g⟩ (v):=
  (fun a ha=>by simp only [execOp,ha.ev hx,ha.ev hc];rfl)
theorem y_ext {x:Operand} {i:Nat} {vs:List Value} {v:Value} (hx:evO kn x=some (.tuple vs.toArray)) (hv:nth vs i=some v):Y P n kn w ⟨some d,.extract x i,ty,pos,aft,g⟩ (v):=
  (fun a ha=>by rw [nth_eq] at hv;simp only [execOp,ha.ev hx];simp [Instr.extract,hv])
theorem y_nck {x:Operand} {p:Addr} (hx:evO kn x=some (.pointer (some p))):Y P n kn w ⟨some d,.nilCheck x,ty,pos,aft,g⟩ (.pointer (some p)):=
  (fun a ha=>by simp only [execOp,ha.ev hx];rfl)
theorem y_not {x:Operand} {T:Nat} {b:Bool} (hx:evO kn x=some (.bool b)):Y P n kn w ⟨some d,.unOp .not T x,ty,pos,aft,g⟩ (.bool (!b)):=
  (fun a ha=>by simp only [execOp,ha.ev hx];try rfl)
theorem addr_add (b off k:Nat):(⟨b,off,none⟩:Addr).add k=⟨b,off+k,none⟩:=by
  unfold Addr.add;split
  · rename_i h;subst h;rfl
  · rfl
theorem y_fa {x:Operand} {T i b off k s:Nat} {fs:Array Field} {f:Field} (hx:evO kn x=some (.pointer (some ⟨b,off,none⟩)))
  (ht:P.underlying T=some (.struct fs)) (hf:nth fs.toList i=some f) (hk:f.offset=k) (hs:∀ w,(Go.sizeOf f.type).run P w=.ok s w) (h0:Nat.blt 0 s=true):Y P n kn w ⟨some d,.fieldAddr T x i,ty,pos,aft,g⟩ (.pointer (some ⟨b,off+k,none⟩)):=
  (fun a ha=>by
    subst hk
    rw [nth_eq] at hf
    have hf':fs[i]?=some f:=by simpa using hf
    have h0' : ¬ s = 0 := by have : 0 < s := by simpa [Nat.blt_eq] using h0
                             omega
    simp only [execOp,ha.ev hx]
    simp [Instr.fieldAt,run_underlying ht,hf',go_sem,hs,h0',addr_add])
theorem y_fa0 {x:Operand} {T i b off s:Nat} {fs:Array Field} {f:Field} (hx:evO kn x=some (.pointer (some ⟨b,off,none⟩)))
  (ht:P.underlying T=some (.struct fs)) (hf:nth fs.toList i=some f) (hk:f.offset=0) (hs:∀ w,(Go.sizeOf f.type).run P w=.ok s w) (h0:Nat.blt 0 s=true):Y P n kn w ⟨some d,.fieldAddr T x i,ty,pos,aft,g⟩ (.pointer (some ⟨b,off,none⟩)):=
  y_fa hx ht hf hk hs h0
theorem y_faz {x:Operand} {T i b k s:Nat} {fs:Array Field} {f:Field} (hx:evO kn x=some (.pointer (some ⟨b,0,none⟩)))
    (ht:P.underlying T=some (.struct fs)) (hf:nth fs.toList i=some f) (hk:f.offset=k) (hs:∀ w,(Go.sizeOf f.type).run P w=.ok s w) (h0:Nat.blt 0 s=true) :
    Y P n kn w ⟨some d,.fieldAddr T x i,ty,pos,aft,g⟩ (.pointer (some ⟨b,k,none⟩)):=by
  have:=y_fa (P:=P) (n:=n) (w:=w) (d:=d) (ty:=ty) (pos:=pos) (aft:=aft) (g:=g) hx ht hf hk hs h0
  rwa [Nat.zero_add] at this
theorem y_ia {x ix:Operand} {T E b off k sz len cap:Nat} {ik:IntKind} {i:Int}
  (hx:evO kn x=some (.slice (some ⟨b,off,none⟩) len cap)) (hix:evO kn ix=some (.int ik i))
  (ht:P.underlying T=some (.slice E)) (hs:∀ w,(Go.sizeOf E).run P w=.ok sz w) (hk:i=(k:Int)) (hlt:k<len):Y P n kn w ⟨some d,.indexAddr T x ix,ty,pos,aft,g⟩ (.pointer (some ⟨b,off+k*sz,none⟩)):=
  (fun a ha=>by
    subst hk
    have h2:(k:Int)<(len:Int):=by omega
    simp only [execOp,ha.ev hx,ha.ev hix]
    simp [Instr.indexAt,asIntOf,run_underlying ht,go_sem,hs,h2,addr_add]
    intro;omega)
theorem y_ia0 {x ix:Operand} {T E b k sz len cap:Nat} {ik:IntKind} {i:Int}
  (hx:evO kn x=some (.slice (some ⟨b,0,none⟩) len cap)) (hix:evO kn ix=some (.int ik i))
  (ht:P.underlying T=some (.slice E)) (hs:∀ w,(Go.sizeOf E).run P w=.ok sz w) (hk:i=(k:Int)) (hlt:k<len):Y P n kn w ⟨some d,.indexAddr T x ix,ty,pos,aft,g⟩ (.pointer (some ⟨b,k*sz,none⟩)):=
  by simpa using y_ia hx hix ht hs hk hlt
theorem y_iaa {x ix:Operand} {T E b off k sz len:Nat} {ik:IntKind} {i:Int}
  (hx:evO kn x=some (.pointer (some ⟨b,off,none⟩))) (hix:evO kn ix=some (.int ik i))
  (ht:P.underlying T=some (.array len E)) (hs:∀ w,(Go.sizeOf E).run P w=.ok sz w) (hk:i=(k:Int)) (hlt:k<len):Y P n kn w ⟨some d,.indexAddr T x ix,ty,pos,aft,g⟩ (.pointer (some ⟨b,off+k*sz,none⟩)):=
  (fun a ha=>by
    subst hk
    have h2:(k:Int)<(len:Int):=by omega
    simp only [execOp,ha.ev hx,ha.ev hix]
    simp [Instr.indexAt,Instr.sureAddr,asIntOf,run_underlying ht,go_sem,hs,h2,addr_add]
    intro;omega)
def dropN {α:Type}:List α→Nat→List α
  | l,0=>l
  | [],_=>[]
  | _::r,k+1=>dropN r k
def takeN {α:Type}:Nat→List α→Option (List α)
  | 0,_=>some []
  | _+1,[]=>none
  | k+1,x::r=>match takeN k r with|some t=>some (x::t)|none=>none
theorem dropN_eq {α:Type} (l:List α) (k:Nat):dropN l k=l.drop k:=by
  induction k generalizing l with
  | zero=>cases l <;> simp [dropN]
  | succ k ih=>cases l <;> simp [dropN,ih]
theorem takeN_spec {α:Type} {k:Nat} {l t:List α} (h:takeN k l=some t):t=l.take k∧t.length=k:=by
  induction k generalizing l t with
  | zero=>simp [takeN] at h;subst h;simp
  | succ k ih=>
    cases l with
    | nil=>simp [takeN] at h
    | cons x r=>
      simp only [takeN] at h
      split at h
      · rename_i t' ht'
        obtain⟨rfl,hl⟩:=ih ht'
        simp only [Option.some.injEq] at h
        subst h
        simp [hl]
      · cases h
theorem cell_blk {b off:Nat} {l:List Value} {E:Nat} {fz:Nat×Nat} {v:Value} (h:w.heap[b]?=some (.cells l.toArray E fz)) (hv:nth l off=some v):w.cell? ⟨b,off,none⟩=some v:=by
  rw [nth_eq] at hv
  simp [World.cell?,h,hv]
theorem y_ldc {x:Operand} {T b off:Nat} {v:Value} (hx:evO kn x=some (.pointer (some ⟨b,off,none⟩)))
  (ha:∀ w,(Go.isAgg T).run P w=.ok false w) (hc:w.cell? ⟨b,off,none⟩=some v):Y P n kn w ⟨some d,.load T x,ty,pos,aft,g⟩ (v):=
  (fun a hk=>by
    simp only [execOp,hk.ev hx]
    simp [Instr.loadAt,Instr.sureAddr,loadVar,ha,hc,go_sem])
theorem y_ld (st:St w0 M hs w) (i:Nat) {x:Operand} {T b off E:Nat} {l:List Value} {fz:Nat×Nat} {v:Value} (hx:evO kn x=some (.pointer (some ⟨b,off,none⟩)))
  (ha:∀ w,(Go.isAgg T).run P w=.ok false w) (hi:nth hs i=some (.blk b (.cells l.toArray E fz))) (hv:nth l off=some v):Y P n kn w ⟨some d,.load T x,ty,pos,aft,g⟩ (v):=
  y_ldc hx ha (cell_blk (st.res hi) hv)
theorem y_ldca {x:Operand} {T b off sz:Nat} (vs:List Value) (hx:evO kn x=some (.pointer (some ⟨b,off,none⟩)))
  (ha:∀ w,(Go.isAgg T).run P w=.ok true w) (hs:∀ w,(Go.sizeOf T).run P w=.ok sz w) (hl:vs.length=sz) (hc:∀ j v,vs[j]?=some v→w.cell? ⟨b,off+j,none⟩=some v):Y P n kn w ⟨some d,.load T x,ty,pos,aft,g⟩ (.agg vs.toArray):=
  (fun a hk=>by
    simp only [execOp,hk.ev hx]
    have:=run_loadCells_list (P:=P) (w:=w) ⟨b,off,none⟩ vs (fun j v hj=>by rw [addr_add];exact hc j v hj)
    subst hl
    unfold loadCells at this
    simp [Instr.loadAt,Instr.sureAddr,loadVar,ha,hs,this,go_sem])
theorem y_lda (st:St w0 M hs w) (i:Nat) {x:Operand} {T b off E sz:Nat} {l:List Value} {fz:Nat×Nat} {vs:List Value} (hx:evO kn x=some (.pointer (some ⟨b,off,none⟩)))
    (ha:∀ w,(Go.isAgg T).run P w=.ok true w) (hsz:∀ w,(Go.sizeOf T).run P w=.ok sz w) (hi:nth hs i=some (.blk b (.cells l.toArray E fz))) (hv:takeN sz (dropN l off)=some vs) :
    Y P n kn w ⟨some d,.load T x,ty,pos,aft,g⟩ (.agg vs.toArray):=by
  obtain⟨h1,h2⟩:=takeN_spec hv
  refine y_ldca vs hx ha hsz h2 (fun j v hj=>?_)
  refine cell_blk (st.res hi) ?_
  rw [nth_eq]
  rw [h1,dropN_eq,List.getElem?_take] at hj
  split at hj
  · rw [List.getElem?_drop] at hj;exact hj
  · cases hj
theorem Chg.setCell (w:World) (p:Addr) (v:Value):Chg [p.block] w (w.setCell p v):=
  ⟨rfl,rfl,rfl,by simp [World.setCell],fun k hk hn=>Below.heap_setCell w p v k (by simpa using hn)⟩
theorem heap_setCell_blk {b off:Nat} {l:List Value} {E:Nat} (v:Value) (h:w.heap[b]?=some (.cells l.toArray E (0,0))) :
    (w.setCell ⟨b,off,none⟩ v).heap[b]?=some (.cells (setNth l off v).toArray E (0,0)):=by
  rw [heap_setCell_same w b off l.toArray E v h,setNth_eq]
  simp
theorem run_storeCells_blk (b E:Nat):∀ (vs:List Value) (l:List Value) (off i:Nat) (w:World),w.heap[b]?=some (.cells l.toArray E (0,0))→off+i+vs.length≤l.length→(∀ v∈vs,v.oneCell'=true)→
    ∃ w' l',(storeCells ⟨b,off,none⟩ vs i).run P w=.ok () w'∧w'.heap[b]?=some (.cells l'.toArray E (0,0))∧Chg [b] w w'∧l'=l.take (off+i)++vs++l.drop (off+i+vs.length)
  | [],l,off,i,w,h,hl,h1=>⟨w,l,by simp [storeCells,go_sem],h,Chg.refl _ _,by simp⟩
  | v::vs,l,off,i,w,h,hl,h1=>by
    simp only [List.length_cons] at hl
    have hc:w.cell? ⟨b,off+i,none⟩=some (l[off+i]'(by omega)):=cell_blk h (by rw [nth_eq];simp)
    have hf:w.frozen? ⟨b,off+i,none⟩=false:=frozen_of_row w b (off+i) l.toArray E h
    have h':=heap_setCell_blk (off:=off+i) v h
    rw [setNth_eq] at h'
    obtain⟨w',l',hr,hh,hc',hl'⟩:=run_storeCells_blk b E vs (l.set (off+i) v) off (i+1) _ h' (by simp;omega) (fun u hu=>h1 u (.tail _ hu))
    refine⟨w',l',?_,hh,(Chg.setCell w ⟨b,off+i,none⟩ v).trans hc',?_⟩
    · have hone:v.oneCell'=true:=h1 v (.head _)
      have hst:(store ⟨b,off+i,none⟩ v).run P w=.ok () (w.setCell ⟨b,off+i,none⟩ v):=by
        cases v <;> first|(simp [Value.oneCell'] at hone;done)|simp [store,Sem.run,hc,hf]
      simp only [storeCells,Sem.run_bind,addr_add,hst,Result.andThen_ok]
      exact hr
    · rw [hl',show off+(i+1)=(off+i)+1 from by omega,List.take_set,List.drop_set,if_pos (by omega),List.take_succ_eq_append_getElem (by omega:off+i<l.length)]
      rw [List.set_append_right _ _ (by simp;omega)]
      simp only [List.length_take,Nat.min_eq_left (by omega:off+i≤l.length),Nat.sub_self,List.set_cons_zero,List.append_assoc,List.cons_append,List.nil_append,List.length_cons]
      try rw [show off+i+1+vs.length=off+i+(vs.length+1) from by omega]
def wr:List Value→Nat→List Value→List Value
  | l,0,[]=>l
  | _::r,0,v::vs=>v::wr r 0 vs
  | [],0,_::_=>[]
  | x::r,k+1,vs=>x::wr r k vs
  | [],_+1,_=>[]
theorem wr_eq:∀ (l:List Value) (off:Nat) (vs:List Value),off+vs.length≤l.length→wr l off vs=l.take off++vs++l.drop (off+vs.length)
  | l,0,[],_=>by simp [wr]
  | x::r,0,v::vs,h=>by
    simp only [List.length_cons] at h
    have:=wr_eq r 0 vs (by omega)
    simp only [wr,this];simp
  | [],0,v::vs,h=>by simp at h
  | x::r,k+1,vs,h=>by
    simp only [List.length_cons] at h
    have:=wr_eq r k vs (by omega)
    simp only [wr,this]
    simp [show k+1+vs.length=(k+vs.length)+1 from by omega]
  | [],k+1,vs,h=>by simp at h
def allOne (vs:List Value):Bool:=match vs with | []=>true|v::r=>match v.oneCell' with|true=>allOne r|false=>false
theorem allOne_spec {vs:List Value} (h:allOne vs=true):∀ v∈vs,v.oneCell'=true:=by
  induction vs with
  | nil=>simp
  | cons v r ih=>
    simp only [allOne] at h
    split at h
    · rename_i h1
      intro u hu
      rcases List.mem_cons.1 hu with rfl|hu
      · exact h1
      · exact ih h u hu
    · cases h
theorem e_sts (st:St w0 M hs w) (i:Nat) {x y:Operand} {T b off E:Nat} {l:List Value} {v:Value} {vs:List Value} (hw:gd L kn g=some true) (hx:evO kn x=some (.pointer (some ⟨b,off,none⟩)))
    (hy:evO kn y=some v) (hv:v.cells.toList=vs) (h1:allOne vs=true) (hsz:∀ w,(Go.sizeOf T).run P w=.ok vs.length w)
    (hi:nth hs i=some (.blk b (.cells l.toArray E (0,0)))) (hlt:Nat.ble (off+vs.length) l.length=true) (hm:b∈M∨w0.heap.size≤b)
    (next:∀ w',St w0 M (setNth hs i (.blk b (.cells (wr l off vs).toArray E (0,0)))) w'→vN n N kn w'):vS P n L Q (⟨none,.store T x y,ty,pos,aft,g⟩) N kn w:=by
  have hle:off+vs.length≤l.length:=by simpa [Nat.ble_eq] using hlt
  obtain⟨w',l',hr,hh,hc,hl⟩:=run_storeCells_blk (P:=P) b E vs l off 0 w (st.res hi) (by simpa using hle) (allOne_spec h1)
  refine e_do hw rfl (w':=w') (fun a ha=>?_) (next w' (st.turn hi rfl rfl hc hm ?_))
  · simp only [execOp,ha.ev hx,ha.ev hy]
    have hsz':v.cells.size=vs.length:=by rw [← hv];simp
    have key:(storeVar T ⟨b,off,none⟩ v).run P w=.ok () w':=by
      simp only [storeVar,Sem.run_bind,hsz,Result.andThen_ok,hsz',ne_eq,not_true_eq_false,↓reduceIte,hv,hr]
    simp only [Instr.storeAt,Instr.sureAddr,Sem.run_bind,Sem.run_pure,Result.andThen_ok,key]
  · have:wr l off vs=l':=by rw [hl,wr_eq l off vs hle];simp
    simpa [Res.holds,this] using hh
theorem e_st (st:St w0 M hs w) (i:Nat) {x y:Operand} {T b off E:Nat} {l:List Value} {v:Value} (hw:gd L kn g=some true) (hx:evO kn x=some (.pointer (some ⟨b,off,none⟩)))
    (hy:evO kn y=some v) (h1:v.oneCell'=true) (hsz:∀ w,(Go.sizeOf T).run P w=.ok 1 w)
    (hi:nth hs i=some (.blk b (.cells l.toArray E (0,0)))) (hlt:Nat.blt off l.length=true) (hm:b∈M∨w0.heap.size≤b)
    (next:∀ w',St w0 M (setNth hs i (.blk b (.cells (setNth l off v).toArray E (0,0)))) w'→vN n N kn w'):vS P n L Q (⟨none,.store T x y,ty,pos,aft,g⟩) N kn w:=by
  have hlt':off<l.length:=by simpa [Nat.blt_eq] using hlt
  have hcs:v.cells.toList=[v]:=by cases v <;> first|rfl|(simp [Value.oneCell'] at h1)
  refine e_sts st i (vs:=[v]) hw hx hy hcs (by simp [allOne,h1]) hsz hi (by simp only [Nat.ble_eq,List.length_cons,List.length_nil];omega) hm (fun w' st'=>next w' ?_)
  have:wr l off [v]=setNth l off v:=by
    rw [wr_eq l off [v] (by simp only [List.length_cons,List.length_nil];omega),setNth_eq,List.set_eq_take_append_cons_drop,if_pos hlt'];simp
  rwa [this] at st'
theorem heap_alloc (w:World) (o:Obj):(w.alloc o).heap[w.heap.size]?=some o:=heap_alloc_new w o
theorem e_new (st:St w0 M hs w) {o:Oper} {v:Value} {E:Nat} {l:List Value} (hw:gd L kn o.guard=some true) (hd:okDst n o.dst=true)
    (hrun:∀ a,K n kn a→(execOp a.eval o).run P w=.ok (.value v) (w.alloc (.cells l.toArray E (0,0))))
    (next:∀ b w',b=w.heap.size→w0.heap.size≤b→St w0 M (.blk b (.cells l.toArray E (0,0))::hs) w'→vN n N (put o.dst v kn) w'):vS P n L Q (o) N kn w:=
  e_run hw hd hrun (next w.heap.size _ rfl st.chg.size (st.push (Chg.alloc w _) (heap_alloc w _) rfl))
theorem e_al (st:St w0 M hs w) {T:Nat} {z:Value} {l:List Value} (hw:gd L kn g=some true) (hd:okDst n (some d)=true)
    (hz:∀ w,(zeroValue T).run P w=.ok z w) (hl:z.cells.toList=l)
    (next:∀ b w',w0.heap.size≤b→St w0 M (.blk b (.cells l.toArray T (0,0))::hs) w'→vN n N ((d,.pointer (some ⟨b,0,none⟩))::kn) w'):vS P n L Q (⟨some d,.alloc T,ty,pos,aft,g⟩) N kn w:=
  e_new st (v:=.pointer (some ⟨w.heap.size,0,none⟩)) (l:=l) (E:=T) hw hd (fun a ha=>by
    have:z.cells=l.toArray:=by rw [← hl]
    simp only [execOp,Instr.alloc,Sem.run_bind,hz,Result.andThen_ok,← this]
    rfl) (fun b w' e hb st'=>by subst e;exact next _ w' hb st')
theorem e_bx (st:St w0 M hs w) {x:Operand} {T:Nat} {v:Value} {l:List Value} (hw:gd L kn g=some true) (hd:okDst n (some d)=true)
    (hx:evO kn x=some v) (hl:v.cells.toList=l)
    (next:∀ b w',w0.heap.size≤b→St w0 M (.blk b (.cells l.toArray T (0,0))::hs) w'→vN n N ((d,.pointer (some ⟨b,0,none⟩))::kn) w'):vS P n L Q (⟨some d,.box T x,ty,pos,aft,g⟩) N kn w:=
  e_new st (v:=.pointer (some ⟨w.heap.size,0,none⟩)) (l:=l) (E:=T) hw hd (fun a ha=>by
    have:v.cells=l.toArray:=by rw [← hl]
    simp only [execOp,ha.ev hx,Instr.box,← this]
    rfl) (fun b w' e hb st'=>by subst e;exact next _ w' hb st')
theorem str_toList (l:List UInt8):(⟨l.toArray⟩:ByteArray).toList=l:=by rw [ByteArray.toList_eq]
theorem str_size (l:List UInt8):(⟨l.toArray⟩:ByteArray).size=l.length:=rfl
theorem evs_list {a:Act} (ha:K n kn a):∀ {az:List Operand} {vals:List Value},az.map (evO kn)=vals.map some→az.map a.eval=vals
  | [],[],_=>rfl
  | [],_::_,h=>by simp at h
  | _::_,[],h=>by simp at h
  | x::xs,v::vs,h=>by
    simp only [List.map_cons,List.cons.injEq] at h
    simp only [List.map_cons,ha.ev h.1,evs_list ha h.2]
theorem evs_map {a:Act} (ha:K n kn a) {args:Array Operand} {vals:List Value} (hv:args.toList.map (evO kn)=vals.map some):args.map a.eval=vals.toArray:=by
  apply Array.toList_inj.1
  rw [Array.toList_map,evs_list ha hv]
theorem run_bi {b:Builtin} {args:Array Operand} {tys:Array TypeId} {v:Value} {w':World} (vals:List Value)
    (hv:args.toList.map (evO kn)=vals.map some)
    (hrun:∀ cs,(builtin b tys ty cs vals.toArray).run P w=.ok (.value v) w') {a:Act} (ha:K n kn a) :
    (execOp a.eval ⟨some d,.call ⟨.builtin b,args,tys⟩,ty,pos,aft,g⟩).run P w=.ok (.value v) w':=by
  have hargs:=evs_map ha hv
  simp only [execOp,resolve,hargs,Sem.run_bind,Sem.run_pure,Result.andThen_ok,invoke,hrun]
theorem e_bi {b:Builtin} {args:Array Operand} {tys:Array TypeId} {v:Value} {w':World} (vals:List Value) (hw:gd L kn g=some true) (hd:okDst n (some d)=true)
    (hv:args.toList.map (evO kn)=vals.map some)
    (hrun:∀ cs,(builtin b tys ty cs vals.toArray).run P w=.ok (.value v) w')
    (next:vN n N ((d,v)::kn) w'):vS P n L Q ⟨some d,.call ⟨.builtin b,args,tys⟩,ty,pos,aft,g⟩ N kn w:=
  e_run hw hd (fun a ha=>run_bi vals hv hrun ha) next
theorem y_bi {b:Builtin} {args:Array Operand} {tys:Array TypeId} {v:Value} (vals:List Value)
    (hv:args.toList.map (evO kn)=vals.map some)
    (hrun:∀ cs,(builtin b tys ty cs vals.toArray).run P w=.ok (.value v) w):Y P n kn w ⟨some d,.call ⟨.builtin b,args,tys⟩,ty,pos,aft,g⟩ v:=
  fun a ha=>run_bi vals hv hrun ha
theorem y_lens {x:Operand} {T:Nat} {l:List UInt8} (hx:evO kn x=some (str l))
  (ht:P.underlying T=some .string):Y P n kn w ⟨some d,.call ⟨.builtin .len,#[x],#[T]⟩,ty,pos,aft,g⟩ (.int .i64 (l.length:Int)):=
  y_bi [str l] (by simp [hx]) (fun cs=>by
    simp only [builtin,Builtin.len_,Sem.run_bind]
    simp [run_underlying ht,goInt,str_size])
theorem y_lensl {x:Operand} {T E len cap:Nat} {oa:Option Addr} (hx:evO kn x=some (.slice oa len cap))
  (ht:P.underlying T=some (.slice E)):Y P n kn w ⟨some d,.call ⟨.builtin .len,#[x],#[T]⟩,ty,pos,aft,g⟩ (.int .i64 (len:Int)):=
  y_bi [.slice oa len cap] (by simp [hx]) (fun cs=>by
    simp only [builtin,Builtin.len_,Sem.run_bind]
    simp [run_underlying ht,goInt])
theorem y_ixs {x ix:Operand} {T k:Nat} {l:List UInt8} {ik:IntKind} {i:Int} (hx:evO kn x=some (str l)) (hix:evO kn ix=some (.int ik i))
  (ht:P.underlying T=some .string) (hk:i=(k:Int)) (hlt:k<l.length):Y P n kn w ⟨some d,.index T x ix,ty,pos,aft,g⟩ (.int .u8 ((l.getD k 0).toNat:Int)):=
  (fun a ha=>by
    subst hk
    have h2:(k:Int)<((⟨l.toArray⟩:ByteArray).size:Int):=by rw [str_size];omega
    simp only [execOp,ha.ev hx,ha.ev hix]
    simp [Instr.index,asIntOf,run_underlying ht,go_sem,h2]
    have h3:k<(⟨l.toArray⟩:ByteArray).size:=hlt
    have h4:l[k]?=some (l[k]'hlt):=List.getElem?_eq_getElem hlt
    simp [h3,h4,getElem!_def,ByteArray.get!,getElem?_pos,hlt]
    rfl)
theorem str_extract (l:List UInt8) (i j:Nat):Value.string ((⟨l.toArray⟩:ByteArray).extract i j)=str ((l.drop i).take (j - i)):=by
  have h:((⟨l.toArray⟩:ByteArray).extract i j).data=((l.drop i).take (j - i)).toArray:=by
    apply Array.toList_inj.1
    rw [← ByteArray.toList_eq,Lib.extract_toList]
  have h2:(⟨l.toArray⟩:ByteArray).extract i j=⟨((l.drop i).take (j - i)).toArray⟩:=by rw [← h]
  rw [h2]
theorem y_sls {x lo hi:Operand} {T i j:Nat} {l:List UInt8} {ik jk:IntKind} {ii jj:Int} (hx:evO kn x=some (str l))
  (hlo:evO kn lo=some (.int ik ii)) (hhi:evO kn hi=some (.int jk jj)) (ht:P.underlying T=some .string) (hi1:ii=(i:Int)) (hj1:jj=(j:Int)) (hij:i≤j) (hj:j≤l.length):Y P n kn w ⟨some d,.slice T x (some lo) (some hi) none,ty,pos,aft,g⟩ (str ((l.drop i).take (j - i))):=
  (fun a ha=>by
    subst hi1;subst hj1
    have h2:(j:Int)≤((⟨l.toArray⟩:ByteArray).size:Int):=by rw [str_size];omega
    have h3:(i:Int)≤(j:Int):=by omega
    simp only [execOp,Option.map_some,Option.map_none,ha.ev hx,ha.ev hlo,ha.ev hhi]
    simp only [← str_extract]
    simp [Instr.sliceAt,Instr.slice,Instr.sliceBounds,Instr.sliceBound,asIntOf,run_underlying ht,h2,h3,str_size,hij,hj])
theorem y_slf {x lo:Operand} {T i:Nat} {l:List UInt8} {ik:IntKind} {ii:Int} (hx:evO kn x=some (str l))
  (hlo:evO kn lo=some (.int ik ii)) (ht:P.underlying T=some .string) (hi1:ii=(i:Int)) (hi:i≤l.length):Y P n kn w ⟨some d,.slice T x (some lo) none none,ty,pos,aft,g⟩ (str (l.drop i)):=
  (fun a ha=>by
    subst hi1
    have h3:(i:Int)≤((⟨l.toArray⟩:ByteArray).size:Int):=by rw [str_size];omega
    have h4:l.drop i=(l.drop i).take (l.length - i):=by rw [List.take_of_length_le (by simp)]
    rw [h4,← str_extract]
    simp only [execOp,Option.map_some,Option.map_none,ha.ev hx,ha.ev hlo]
    simp [Instr.sliceAt,Instr.slice,Instr.sliceBounds,Instr.sliceBound,asIntOf,run_underlying ht,h3,str_size,hi])
theorem y_bo {op:BinOp} {T U:Nat} {x y:Operand} {u v r:Value} (hx:evO kn x=some u) (hy:evO kn y=some v)
  (hrun:(do eqGuard op T x y u v;binOp op T u v:Sem Value).run P w=.ok r w):Y P n kn w ⟨some d,.binOp op T x y U,ty,pos,aft,g⟩ (r):=
  (fun a ha=>by
    simp only [execOp,ha.ev hx,ha.ev hy]
    rw [Sem.run_bind,hrun];rfl)
theorem y_add {T U:Nat} {x y:Operand} {p q r:Int} (hx:evO kn x=some (.int .i64 p)) (hy:evO kn y=some (.int .i64 q))
  (hr:p+q=r) (h1:-9223372036854775808≤r) (h2:r≤9223372036854775807):Y P n kn w ⟨some d,.binOp .add T x y U,ty,pos,aft,g⟩ (.int .i64 r):=
  y_bo hx hy (by subst hr;simp [eqGuard,binOp,Op.intArith,IntWalk.i64_in (p+q) ⟨h1,h2⟩])
theorem y_sub {T U:Nat} {x y:Operand} {p q r:Int} (hx:evO kn x=some (.int .i64 p)) (hy:evO kn y=some (.int .i64 q))
  (hr:p - q=r) (h1:-9223372036854775808≤r) (h2:r≤9223372036854775807):Y P n kn w ⟨some d,.binOp .sub T x y U,ty,pos,aft,g⟩ (.int .i64 r):=
  y_bo hx hy (by subst hr;simp [eqGuard,binOp,Op.intArith,IntWalk.i64_in (p - q) ⟨h1,h2⟩])
theorem wrap_u64 (x:Int):IntKind.u64.wrap x=x % 18446744073709551616:=by simp [IntKind.wrap,IntKind.bits,IntKind.signed]
theorem wrap_u8 (x:Int):IntKind.u8.wrap x=x % 256:=by simp [IntKind.wrap,IntKind.bits,IntKind.signed]
theorem y_addk {T U:Nat} {x y:Operand} {p q r:Int} {k:IntKind} (hx:evO kn x=some (.int k p)) (hy:evO kn y=some (.int k q)) (hr:k.wrap (p+q)=r) :
    Y P n kn w ⟨some d,.binOp .add T x y U,ty,pos,aft,g⟩ (.int k r):=y_bo hx hy (by subst hr;simp [eqGuard,binOp,Op.intArith])
theorem y_subk {T U:Nat} {x y:Operand} {p q r:Int} {k:IntKind} (hx:evO kn x=some (.int k p)) (hy:evO kn y=some (.int k q)) (hr:k.wrap (p - q)=r) :
    Y P n kn w ⟨some d,.binOp .sub T x y U,ty,pos,aft,g⟩ (.int k r):=y_bo hx hy (by subst hr;simp [eqGuard,binOp,Op.intArith])
theorem y_mulk {T U:Nat} {x y:Operand} {p q r:Int} {k:IntKind} (hx:evO kn x=some (.int k p)) (hy:evO kn y=some (.int k q)) (hr:k.wrap (p*q)=r) :
    Y P n kn w ⟨some d,.binOp .mul T x y U,ty,pos,aft,g⟩ (.int k r):=y_bo hx hy (by subst hr;simp [eqGuard,binOp,Op.intArith])
theorem y_quok {T U:Nat} {x y:Operand} {p q r:Int} {k:IntKind} (hx:evO kn x=some (.int k p)) (hy:evO kn y=some (.int k q)) (h0:0≤p) (hq:0<q) (hr:k.wrap (p / q)=r) :
    Y P n kn w ⟨some d,.binOp .quo T x y U,ty,pos,aft,g⟩ (.int k r):=y_bo hx hy (by
      have h1:¬ q=0:=by omega
      have h2:p.tdiv q=p / q:=Int.tdiv_eq_ediv_of_nonneg h0
      subst hr;simp [eqGuard,binOp,Op.intDiv,h1,h2])
theorem y_remk {T U:Nat} {x y:Operand} {p q r:Int} {k:IntKind} (hx:evO kn x=some (.int k p)) (hy:evO kn y=some (.int k q)) (h0:0≤p) (hq:0<q) (hr:p % q=r) :
    Y P n kn w ⟨some d,.binOp .rem T x y U,ty,pos,aft,g⟩ (.int k r):=y_bo hx hy (by
      have h1:¬ q=0:=by omega
      have h2:p.tmod q=p % q:=Int.tmod_eq_emod_of_nonneg h0
      subst hr;simp [eqGuard,binOp,Op.intDiv,h1,h2])
theorem y_cvi {T U:Nat} {x:Operand} {p r:Int} {k k':IntKind} {td:TypeDesc} (hx:evO kn x=some (.int k p)) (ht:P.underlying U=some (.int k')) (hs:P.underlying T=some td) (hr:k'.wrap p=r) :
    Y P n kn w ⟨some d,.convert T U x,ty,pos,aft,g⟩ (.int k' r):=fun a ha=>by
  subst hr
  simp only [execOp,ha.ev hx]
  simp [convert,run_underlying ht,run_underlying hs,Conv.intToInt]
theorem y_lss {T U:Nat} {x y:Operand} {p q:Int} {k:IntKind} (hx:evO kn x=some (.int k p)) (hy:evO kn y=some (.int k q)):Y P n kn w ⟨some d,.binOp .lss T x y U,ty,pos,aft,g⟩ (.bool (decide (p<q))):=
  y_bo hx hy (by simp [eqGuard,binOp,Op.intCmp])
theorem y_leq {T U:Nat} {x y:Operand} {p q:Int} {k:IntKind} (hx:evO kn x=some (.int k p)) (hy:evO kn y=some (.int k q)):Y P n kn w ⟨some d,.binOp .leq T x y U,ty,pos,aft,g⟩ (.bool (decide (p≤q))):=
  y_bo hx hy (by simp [eqGuard,binOp,Op.intCmp])
theorem y_gtr {T U:Nat} {x y:Operand} {p q:Int} {k:IntKind} (hx:evO kn x=some (.int k p)) (hy:evO kn y=some (.int k q)):Y P n kn w ⟨some d,.binOp .gtr T x y U,ty,pos,aft,g⟩ (.bool (decide (q<p))):=
  y_bo hx hy (by simp [eqGuard,binOp,Op.intCmp])
theorem y_geq {T U:Nat} {x y:Operand} {p q:Int} {k:IntKind} (hx:evO kn x=some (.int k p)) (hy:evO kn y=some (.int k q)):Y P n kn w ⟨some d,.binOp .geq T x y U,ty,pos,aft,g⟩ (.bool (decide (q≤p))):=
  y_bo hx hy (by simp [eqGuard,binOp,Op.intCmp])
theorem y_eqi {T U:Nat} {x y:Operand} {p q:Int} {k:IntKind} (hx:evO kn x=some (.int k p)) (hy:evO kn y=some (.int k q)):Y P n kn w ⟨some d,.binOp .eql T x y U,ty,pos,aft,g⟩ (.bool (decide (p=q))):=
  y_bo hx hy (by simp [eqGuard,binOp,Op.intCmp];rfl)
theorem y_nei {T U:Nat} {x y:Operand} {p q:Int} {k:IntKind} (hx:evO kn x=some (.int k p)) (hy:evO kn y=some (.int k q)):Y P n kn w ⟨some d,.binOp .neq T x y U,ty,pos,aft,g⟩ (.bool (!decide (p=q))):=
  y_bo hx hy (by simp [eqGuard,binOp,Op.intCmp];rfl)
theorem y_eqs {T U:Nat} {x y:Operand} {p q:List UInt8} (hx:evO kn x=some (str p)) (hy:evO kn y=some (str q)):Y P n kn w ⟨some d,.binOp .eql T x y U,ty,pos,aft,g⟩ (.bool (decide (p=q))):=
  y_bo hx hy (by simp [eqGuard,binOp,Op.stringOp,str_toList];first|done|(rw [Bool.eq_iff_iff];simp))
theorem y_nes {T U:Nat} {x y:Operand} {p q:List UInt8} (hx:evO kn x=some (str p)) (hy:evO kn y=some (str q)):Y P n kn w ⟨some d,.binOp .neq T x y U,ty,pos,aft,g⟩ (.bool (!decide (p=q))):=
  y_bo hx hy (by simp [eqGuard,binOp,Op.stringOp,str_toList];first|done|(rw [Bool.eq_iff_iff];simp))
theorem y_mf {f:Fn} {first captured:Array Operand} (fv cv:List Value) (hf:first.toList.map (evO kn)=fv.map some) (hc:captured.toList.map (evO kn)=cv.map some) :
    Y P n kn w ⟨some d,.makeFunc f first captured,ty,pos,aft,g⟩ (.func f fv.toArray cv.toArray):=fun a ha=>by
  have h1:=evs_map ha hf
  have h2:=evs_map ha hc
  simp only [execOp,h1,h2]
  simp [Instr.makeFunc,go_sem]
theorem y_bld {T:Nat} {parts:Array (Nat×Operand)} (r:Value) (vals:List (Nat×Value)) (hv:parts.toList.map (fun p=>(evO kn p.2).map (p.1,·))=vals.map some)
    (hrun:∀ w,(Instr.build T vals.toArray).run P w=.ok r w):Y P n kn w ⟨some d,.build T parts,ty,pos,aft,g⟩ r:=by
  intro a ha
  have hargs:(parts.map fun (i,x)=>(i,a.eval x))=vals.toArray:=by
    apply Array.toList_inj.1
    rw [Array.toList_map]
    generalize parts.toList=az at hv
    simp only
    clear hrun
    induction az generalizing vals with
    | nil=>cases vals with|nil=>rfl|cons v vs=>simp at hv
    | cons x xs ih=>
      cases vals with
      | nil=>simp at hv
      | cons v vs=>
        simp only [List.map_cons,List.cons.injEq] at hv
        obtain⟨h1,h2⟩:=hv
        cases hx:evO kn x.2 with
        | none=>simp [hx] at h1
        | some u=>
          simp only [hx,Option.map_some,Option.some.injEq] at h1
          subst h1
          simp only [List.map_cons,ha.ev hx,ih vs h2]
  simp only [execOp,hargs,Sem.run_bind,hrun,Result.andThen_ok,Sem.run_pure]
theorem e_bs1 (st:St w0 M hs w) {T E sz:Nat} {x:Operand} {v:Value} {l:List Value} (hw:gd L kn g=some true) (hd:okDst n (some d)=true) (hx:evO kn x=some v) (hl:v.cells.toList=l)
    (ht:P.underlying T=some (.slice E)) (hs1:∀ w,(Go.sizeOf E).run P w=.ok sz w) (hsz:l.length=sz) (h0:Nat.blt 0 sz=true) (hbig:Nat.ble sz 16777216=true) {z:Value} (hz:∀ w,(zeroValue E).run P w=.ok z w)
    (next:∀ b w',w0.heap.size≤b→St w0 M (.blk b (.cells l.toArray E (0,0))::hs) w'→vN n N ((d,.slice (some ⟨b,0,none⟩) 1 1)::kn) w') :
    vS P n L Q ⟨some d,.buildSlice T 1 #[(0,x)],ty,pos,aft,g⟩ N kn w:=by
  refine e_new st (v:=.slice (some ⟨w.heap.size,0,none⟩) 1 1) (l:=l) (E:=E) hw hd (fun a ha=>?_) (fun b w' e hb st'=>by subst e;exact next _ w' hb st')
  have hc:v.cells=l.toArray:=by rw [← hl]
  have hcs:v.cells.size=sz:=by rw [hc];simpa using hsz
  have h0':¬ sz=0:=by
    have:0<sz:=by simpa [Nat.blt_eq] using h0
    omega
  have hbig':¬ sz > 2 ^ 24:=by
    have:sz≤16777216:=by simpa [Nat.ble_eq] using hbig
    omega
  have hfill:∀ init:Array Value,init.size=sz→Instr.fill (fun i=>some (i*sz,sz)) init [(0,v)]=some l.toArray:=by
    intro init hi
    simp only [Instr.fill,hcs,Nat.zero_mul,Nat.zero_add,hi,ne_eq,not_true_eq_false,decide_false,gt_iff_lt,Nat.lt_irrefl,Bool.or_self,Bool.false_eq_true,↓reduceIte,Option.some.injEq]
    rw [hc]
    have key:∀ (m:List Value) (i:Nat) (ini:Array Value),i+m.length=ini.size→
        (m.zipIdx i).foldl (fun cs (p:Value×Nat)=>cs.setIfInBounds p.2 p.1) ini=(ini.toList.take i++m).toArray:=by
      intro m
      induction m with
      | nil=>intro i ini h;simp at h;simp;rw [List.take_of_length_le (by simp;omega)]
      | cons y ys ih=>
        intro i ini h
        simp only [List.length_cons] at h
        simp only [List.zipIdx_cons,List.foldl_cons]
        rw [ih (i+1) _ (by simp;omega)]
        congr 1
        rw [Array.toList_setIfInBounds,List.take_succ_eq_append_getElem (by simp;omega)]
        simp [List.take_set_of_le]
    have h2:=key l 0 init (by simpa [hi] using hsz)
    have h3:l.toArray.zipIdx.foldl (fun cs (p:Value×Nat)=>cs.setIfInBounds p.2 p.1) init=(l.zipIdx 0).foldl (fun cs (p:Value×Nat)=>cs.setIfInBounds p.2 p.1) init:=by
      rw [← Array.foldl_toList]
      simp
    simpa [h3] using h2
  simp only [execOp]
  have hm:(#[(0,x)].map fun (p:Nat×Operand)=>(p.1,a.eval p.2))=#[(0,v)]:=by simp [ha.ev hx]
  rw [hm]
  simp only [Instr.buildSlice,Sem.run_bind,run_underlying ht,Result.andThen_ok,hs1,Nat.one_mul]
  simp [h0',hz,hfill,newRow,newObj,Sem.run]
  omega
end
end Sx
