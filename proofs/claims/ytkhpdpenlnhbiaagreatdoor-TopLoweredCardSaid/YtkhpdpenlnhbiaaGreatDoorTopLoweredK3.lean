/- A part of the proof: contracts of functions and plain laws; each theorem says its own conditions. -/
import Derived.Laws.OwnMore
import Derived.Laws.StructEq
import Derived.Great.BuildSlice
import Derived.Lib.AppendStr
import Derived.Laws.BytesArg
import Derived.Laws.MakeOwn
import Derived.WalkKit
import Derived.ProofKit
import Derived.OpenShut
import Derived.ChangeOld
import Derived.OpenVars
import Derived.Below
import Derived.Test.YtkhpdpenlnhbiaaGreatDoorTopLoweredK2
set_option linter.unusedVariables false
set_option linter.unusedSimpArgs false
/- The engine,fifth part: append. -/
namespace Sx
open Go Go.RowKit
section
variable {w0 w w':World} {M:List Nat} {hs:List Res}
theorem St.app (st:St w0 M hs w) {i e size n n':Nat} {v v':Value} {xs xs':List Value} (hi:nth hs i=some (.own v e size n xs)) (hg:w.grownBy w' v.ownBlock)
    (hown:w'.ownsRow w0.heap.size e size v' n' xs') (hat:v'.ownBlock=v.ownBlock∨v'.ownBlock=some w.heap.size) :
    St w0 M (setNth hs i (.own v' e size n' xs')) w':=
  st.swap hi (Chg.of_grownByO hg) (by simp [Res.at?]) (fun k hk=>.inr ((World.ownsRow.lt (st.res hi) k (by simpa using hk)).1)) (fun k hk=>by
    simp only [Res.at?] at hk ⊢
    rcases hat with h|h
    · rw [h] at hk;exact .inl hk
    · rw [h] at hk;simp at hk;exact .inr (by omega)) hown
theorem St.ownNil (st:St w0 M hs w) (e size:Nat):St w0 M (.own (.slice none 0 0) e size 0 []::hs) w:=
  st.pushR (Chg.refl _ _) (World.ownsRow_nil w _ e size) (by simp [Res.at?,Value.ownBlock])
theorem ownsRow_base {base base' e size n:Nat} {v:Value} {xs:List Value} (h:w.ownsRow base e size v n xs) (hb:base'≤base):w.ownsRow base' e size v n xs:=
  ⟨h.1,h.2.imp id fun ⟨g,cap,cur,h1,h2,h3⟩=>⟨g,cap,cur,h1,Nat.le_trans hb h2,h3⟩⟩
theorem St.pushOwn (st:St w0 M hs w) (c:Chg [] w w') {v:Value} {e size n:Nat} {xs:List Value} (h:w'.ownsRow w.heap.size e size v n xs):St w0 M (.own v e size n xs::hs) w':=
  st.pushR c (ownsRow_base h st.chg.size) (fun k hk=>(World.ownsRow.lt h k (by simpa [Res.at?] using hk)).1)
variable {P:Program} {n:Fr} {L:List Oper} {Q:Exit→Act→World→Prop} {kn:Kn} {N:Act→World→Prop}
variable {d ty:Nat} {pos:String} {aft:Array Edge} {g:Option (Nat×Bool)}
theorem e_app (st:St w0 M hs w) (i j:Nat) {T E size bytes m len c b:Nat} {x y:Operand} {v z:Value} {xs l:List Value} {fz:Nat×Nat} {ti:TypeInfo} (hw:gd L kn g=some true) (hd:okDst n (some d)=true)
    (hx:evO kn x=some v) (hy:evO kn y=some (.slice (some ⟨b,0,none⟩) m c)) (hi:nth hs i=some (.own v E size len xs)) (hj:nth hs j=some (.blk b (.cells l.toArray E fz)))
    (ht:P.underlying T=some (.slice E)) (hinfo:P.info? E=some ti) (hz:ti.zero=some z) (hsize:ti.size=size) (hby:ti.bytes=bytes) (hzs:z.cells.size=size) (hsz:Nat.blt 0 size=true)
    (hl:l.length=m*size) (h1:allOne l=true) (hm:Nat.blt 0 m=true) (h63:len+m≤maxLen) (hbytes:(len+m)*bytes≤140737488355328)
    (next:∀ oa cap w',St w0 M (setNth hs i (.own (.slice oa (len+m) cap) E size (len+m) (xs++l))) w'→vN n N ((d,.slice oa (len+m) cap)::kn) w') :
    vS P n L Q ⟨some d,.call ⟨.builtin .append,#[x,y],#[T,T]⟩,ty,pos,aft,g⟩ N kn w:=by
  have hb:w.heap[b]?=some (.cells l.toArray E fz):=st.res hj
  have hm':0<m:=by simpa [Nat.blt_eq] using hm
  obtain⟨v',w',hr,hown,hg,hnil,hat⟩:=run_append_own_at (P:=P) w w0.heap.size T ty E ti z size bytes ht hinfo hz hsize hby hzs (by simpa [Nat.blt_eq] using hsz) v len xs (st.res hi) ⟨b,0,none⟩ m c l hl
    (fun k u hk=>by rw [addr_add];exact cell_blk hb (by rw [nth_eq];simpa using hk)) (allOne_spec h1) h63 hbytes st.chg.size
  obtain⟨oa,cap,rfl⟩:∃ oa cap,v'=.slice oa (len+m) cap:=by
    rcases hown.2 with ⟨rfl,h0⟩|⟨g,cap,cur,rfl,_⟩
    · omega
    · exact⟨_,_,rfl⟩
  refine e_bi [v,.slice (some ⟨b,0,none⟩) m c] hw hd (by simp [hx,hy]) (w':=w') (fun cs=>?_) (next oa cap w' (st.app hi hg hown hat))
  simp only [builtin,Sem.run_bind,List.toArray,hr]
  rfl
end
end Sx
/- The engine,sixth part: loads from a row that is owned. -/
namespace Sx
open Go Go.RowKit
section
variable {w0 w w':World} {M:List Nat} {hs:List Res}
variable {P:Program} {n:Fr} {L:List Oper} {Q:Exit→Act→World→Prop} {kn:Kn} {N:Act→World→Prop}
variable {d ty:Nat} {pos:String} {aft:Array Edge} {g:Option (Nat×Bool)}
theorem own_cell {base e size len cap b off:Nat} {xs:List Value} {v:Value} (h:w.ownsRow base e size (.slice (some ⟨b,0,none⟩) len cap) len xs) (hv:xs[off]?=some v):w.cell? ⟨b,off,none⟩=some v:=by
  have hl:off<xs.length:=(List.getElem?_eq_some_iff.1 hv).1
  rw [World.ownsRow.cellAt h off (by rw [← h.1];exact hl),hv]
theorem y_ldo (st:St w0 M hs w) (i:Nat) {x:Operand} {T b off e size len cap:Nat} {xs:List Value} {v:Value} (hx:evO kn x=some (.pointer (some ⟨b,off,none⟩)))
  (ha:∀ w,(Go.isAgg T).run P w=.ok false w) (hi:nth hs i=some (.own (.slice (some ⟨b,0,none⟩) len cap) e size len xs)) (hv:xs[off]?=some v):Y P n kn w ⟨some d,.load T x,ty,pos,aft,g⟩ v:=
  y_ldc hx ha (own_cell (st.res hi) hv)
theorem y_ldoa (st:St w0 M hs w) (i:Nat) {x:Operand} {T b off e size len cap sz:Nat} {xs:List Value} {vs:List Value} (hx:evO kn x=some (.pointer (some ⟨b,off,none⟩)))
  (ha:∀ w,(Go.isAgg T).run P w=.ok true w) (hsz:∀ w,(Go.sizeOf T).run P w=.ok sz w) (hi:nth hs i=some (.own (.slice (some ⟨b,0,none⟩) len cap) e size len xs)) (hl:vs.length=sz)
  (hv:∀ j v,vs[j]?=some v→xs[off+j]?=some v):Y P n kn w ⟨some d,.load T x,ty,pos,aft,g⟩ (.agg vs.toArray):=
  y_ldca vs hx ha hsz hl (fun j v hj=>own_cell (st.res hi) (hv j v hj))
theorem own_form {base e size n:Nat} {v:Value} {xs:List Value} (h:w.ownsRow base e size v n xs) (hn:0<n) :
    ∃ g cap,v=.slice (some ⟨g,0,none⟩) n cap∧base≤g:=by
  rcases h.2 with ⟨_,h0⟩|⟨g,cap,cur,hv,hb,hg,_⟩
  · omega
  · exact⟨g,cap,hv,hb⟩
end
end Sx
/- The engine,seventh part: append of a row that can be read;stores into a row that is owned;slice literals. -/
namespace Sx
open Go Go.RowKit
section
variable {w0 w w':World} {M:List Nat} {hs:List Res}
variable {P:Program} {n:Fr} {L:List Oper} {Q:Exit→Act→World→Prop} {kn:Kn} {N:Act→World→Prop}
variable {d ty:Nat} {pos:String} {aft:Array Edge} {g:Option (Nat×Bool)}
theorem run_storeCells_own (base E size len cap b:Nat):∀ (vs:List Value) (xs:List Value) (off i:Nat) (w:World),w.ownsRow base E size (.slice (some ⟨b,0,none⟩) len cap) len xs→off+i+vs.length≤xs.length→(∀ v∈vs,v.oneCell'=true)→
    ∃ w' xs',(storeCells ⟨b,off,none⟩ vs i).run P w=.ok () w'∧w'.ownsRow base E size (.slice (some ⟨b,0,none⟩) len cap) len xs'∧w.grownBy w' (some b)∧xs'=xs.take (off+i)++vs++xs.drop (off+i+vs.length)
  | [],xs,off,i,w,h,hl,h1=>⟨w,xs,by simp [storeCells,go_sem],h,⟨rfl,rfl,rfl,Nat.le_refl _,fun _ _ _=>rfl⟩,by simp⟩
  | v::vs,xs,off,i,w,h,hl,h1=>by
    simp only [List.length_cons] at hl
    have hc:w.cell? ⟨b,off+i,none⟩=some (xs[off+i]'(by omega)):=own_cell h (by simp)
    have hf:w.frozen? ⟨b,off+i,none⟩=false:=World.ownsRow.frozenAt h _
    have h':=World.ownsRow.stored h (off+i) v
    obtain⟨w',xs',hr,hh,hg',hl'⟩:=run_storeCells_own base E size len cap b vs (xs.set (off+i) v) off (i+1) _ h'.1 (by simp;omega) (fun u hu=>h1 u (.tail _ hu))
    refine⟨w',xs',?_,hh,⟨hg'.os.trans h'.2.os,hg'.tape.trans h'.2.tape,hg'.output.trans h'.2.output,Nat.le_trans h'.2.size hg'.size,fun k hk hn=>(hg'.block k (Nat.lt_of_lt_of_le hk h'.2.size) hn).trans (h'.2.block k hk hn)⟩,?_⟩
    · have hone:v.oneCell'=true:=h1 v (.head _)
      have hst:(store ⟨b,off+i,none⟩ v).run P w=.ok () (w.setCell ⟨b,off+i,none⟩ v):=by
        cases v <;> first|(simp [Value.oneCell'] at hone;done)|simp [store,Sem.run,hc,hf]
      simp only [storeCells,Sem.run_bind,addr_add,hst,Result.andThen_ok]
      exact hr
    · rw [hl',show off+(i+1)=(off+i)+1 from by omega,List.take_set,List.drop_set,if_pos (by omega),List.take_succ_eq_append_getElem (by omega:off+i<xs.length)]
      rw [List.set_append_right _ _ (by simp;omega)]
      simp only [List.length_take,Nat.min_eq_left (by omega:off+i≤xs.length),Nat.sub_self,List.set_cons_zero,List.append_assoc,List.cons_append,List.nil_append,List.length_cons]
      try rw [show off+i+1+vs.length=off+i+(vs.length+1) from by omega]
theorem e_stso (st:St w0 M hs w) (i:Nat) {x y:Operand} {T b off E size len cap:Nat} {xs:List Value} {v:Value} {vs:List Value} (hw:gd L kn g=some true) (hx:evO kn x=some (.pointer (some ⟨b,off,none⟩)))
    (hy:evO kn y=some v) (hv:v.cells.toList=vs) (h1:allOne vs=true) (hsz:∀ w,(Go.sizeOf T).run P w=.ok vs.length w)
    (hi:nth hs i=some (.own (.slice (some ⟨b,0,none⟩) len cap) E size len xs)) (hlt:off+vs.length≤xs.length)
    (next:∀ w',St w0 M (setNth hs i (.own (.slice (some ⟨b,0,none⟩) len cap) E size len (xs.take off++vs++xs.drop (off+vs.length)))) w'→vN n N kn w'):vS P n L Q (⟨none,.store T x y,ty,pos,aft,g⟩) N kn w:=by
  obtain⟨w',xs',hr,hh,hg',hl⟩:=run_storeCells_own (P:=P) w0.heap.size E size len cap b vs xs off 0 w (st.res hi) (by simpa using hlt) (allOne_spec h1)
  have hl':xs'=xs.take off++vs++xs.drop (off+vs.length):=by simpa using hl
  subst hl'
  refine e_do hw rfl (w':=w') (fun a ha=>?_) (next w' (st.app hi hg' hh (.inl rfl)))
  simp only [execOp,ha.ev hx,ha.ev hy]
  have hsz':v.cells.size=vs.length:=by rw [← hv];simp
  have key:(storeVar T ⟨b,off,none⟩ v).run P w=.ok () w':=by
    simp only [storeVar,Sem.run_bind,hsz,Result.andThen_ok,hsz',ne_eq,not_true_eq_false,↓reduceIte,hv,hr]
  simp only [Instr.storeAt,Instr.sureAddr,Sem.run_bind,Sem.run_pure,Result.andThen_ok,key]
theorem e_bsn (st:St w0 M hs w) {T E len:Nat} {parts:Array (Nat×Operand)} {l:List Value} (vals:List (Nat×Value)) (hw:gd L kn g=some true) (hd:okDst n (some d)=true)
    (hv:parts.toList.map (fun p=>(evO kn p.2).map (p.1,·))=vals.map some)
    (hrun:∀ w,(Instr.buildSlice T len vals.toArray).run P w=.ok (.slice (some ⟨w.heap.size,0,none⟩) len len) (w.alloc (.cells l.toArray E (0,0))))
    (next:∀ b w',w0.heap.size≤b→St w0 M (.blk b (.cells l.toArray E (0,0))::hs) w'→vN n N ((d,.slice (some ⟨b,0,none⟩) len len)::kn) w') :
    vS P n L Q ⟨some d,.buildSlice T len parts,ty,pos,aft,g⟩ N kn w:=by
  refine e_new st (v:=.slice (some ⟨w.heap.size,0,none⟩) len len) (l:=l) (E:=E) hw hd (fun a ha=>?_) (fun b w' e hb st'=>by subst e;exact next _ w' hb st')
  have hargs:(parts.map fun (i,x)=>(i,a.eval x))=vals.toArray:=by
    apply Array.toList_inj.1
    rw [Array.toList_map]
    generalize parts.toList=az at hv
    simp only
    clear hrun
    induction az generalizing vals with
    | nil=>cases vals with|nil=>rfl|cons v vs=>simp at hv
    | cons x xs ih=>
      cases vals with
      | nil=>simp at hv
      | cons v vs=>
        simp only [List.map_cons,List.cons.injEq] at hv
        obtain⟨h1,h2⟩:=hv
        cases hx:evO kn x.2 with
        | none=>simp [hx] at h1
        | some u=>
          simp only [hx,Option.map_some,Option.some.injEq] at h1
          subst h1
          simp only [List.map_cons,ha.ev hx,ih vs h2]
  simp only [execOp,hargs,Sem.run_bind,hrun,Result.andThen_ok,Sem.run_pure]
theorem St.toOwn {b E:Nat} {l:List Value} (st:St w0 M (.blk b (.cells l.toArray E (0,0))::hs) w) {len size:Nat} (hb:w0.heap.size≤b) (hlen:l.length=len*size) (hm:len≤maxLen) :
    St w0 M (.own (.slice (some ⟨b,0,none⟩) len len) E size len l::hs) w:=by
  have hh:=st.res (i:=0) rfl
  refine st.turn0 (fun k hk=>by simpa [Res.at?,Value.ownBlock] using hk) ⟨hlen,.inr ⟨b,len,l.toArray,rfl,hb,hh,Nat.le_refl _,hm,by simpa using hlen,?_⟩⟩
  simp only [← hlen]
  exact List.take_of_length_le (by simp)
theorem e_bs0 (st:St w0 M hs w) {T E sz:Nat} (hw:gd L kn g=some true) (hd:okDst n (some d)=true)
    (ht:P.underlying T=some (.slice E)) (hs1:∀ w,(Go.sizeOf E).run P w=.ok sz w)
    (next:∀ b w',w0.heap.size≤b→St w0 M (.own (.slice (some ⟨b,0,none⟩) 0 0) E sz 0 []::hs) w'→vN n N ((d,.slice (some ⟨b,0,none⟩) 0 0)::kn) w') :
    vS P n L Q ⟨some d,.buildSlice T 0 #[],ty,pos,aft,g⟩ N kn w:=by
  refine e_bsn st (l:=[]) (E:=E) [] hw hd rfl (fun w=>?_) (fun b w' hb st'=>next b w' hb (st'.toOwn hb (by simp) (Nat.zero_le _)))
  simp [Instr.buildSlice,run_underlying ht,hs1,Instr.fill,newRow,newObj,Sem.run,go_sem]
end
end Sx
/- The engine,twelfth part: slices of slices;what a row that is owned reads as. -/
namespace Sx
open Go Go.RowKit
section
variable {w0 w w':World} {M:List Nat} {hs:List Res}
variable {P:Program} {n:Fr} {L:List Oper} {Q:Exit→Act→World→Prop} {kn:Kn} {N:Act→World→Prop}
variable {d ty:Nat} {pos:String} {aft:Array Edge} {g:Option (Nat×Bool)}
theorem addr_add0 (a:Addr):a.add 0=a:=by unfold Addr.add;simp
theorem y_slh {x hi:Operand} {T E sz j len cap:Nat} {oa:Option Addr} {jk:IntKind} {jj:Int} (hx:evO kn x=some (.slice oa len cap))
  (hhi:evO kn hi=some (.int jk jj)) (ht:P.underlying T=some (.slice E)) (hs:∀ w,(Go.sizeOf E).run P w=.ok sz w) (hj1:jj=(j:Int)) (hj:j≤cap):Y P n kn w ⟨some d,.slice T x none (some hi) none,ty,pos,aft,g⟩ (.slice oa j cap):=
  (fun a ha=>by
    subst hj1
    have h2:(j:Int)≤(cap:Int):=by omega
    simp only [execOp,Option.map_some,Option.map_none,ha.ev hx,ha.ev hhi]
    simp only [Instr.sliceAt,Instr.slice,Instr.sliceBounds,Instr.sliceBound,asIntOf,Sem.run_bind,run_underlying ht,Result.andThen_ok,hs]
    simp [hj,hs]
    intro _;cases oa <;> simp [addr_add0])
end
end Sx
/- The engine,thirteenth part: bytes: append of a string's,a string of bytes;max;make. -/
namespace Sx
open Go Go.RowKit Go.Lib
abbrev bytesL (l:List UInt8):List Value:=l.map fun b=>Value.int .u8 (b.toNat:Int)
section
variable {w0 w w':World} {M:List Nat} {hs:List Res}
variable {P:Program} {n:Fr} {L:List Oper} {Q:Exit→Act→World→Prop} {kn:Kn} {N:Act→World→Prop}
variable {d ty:Nat} {pos:String} {aft:Array Edge} {g:Option (Nat×Bool)}
def RdRowP (w:World) (oa:Option Addr) (c:Nat) (l:List Value):Prop:=(oa=none∧l=[]∧c=0)∨∃ b off,oa=some ⟨b,off,none⟩∧∀ k u,l[k]?=some u→w.cell? ⟨b,off+k,none⟩=some u
theorem y_b2s {x:Operand} {T U E m c:Nat} {oa:Option Addr} {p:List UInt8} (hx:evO kn x=some (.slice oa m c)) (hrd:RdRowP w oa c (bytesL p)) (hm:p.length=m)
    (ht:P.underlying T=some (.slice E)) (he:P.underlying E=some (.int .u8)) (hu:P.underlying U=some .string):Y P n kn w ⟨some d,.convert T U x,ty,pos,aft,g⟩ (str p):=fun a ha=>by
  simp only [execOp,ha.ev hx]
  rcases hrd with ⟨rfl,h0,rfl⟩|⟨b,off,rfl,hc⟩
  · obtain rfl:p=[]:=by simpa [bytesL] using h0
    have:=run_convert_bytes_nil (P:=P) w T E ht he m 0 U hu
    simp [this]
    rfl
  · have:=run_convert_bytes_arg (P:=P) w T E ht he b off m c (p.map fun b=>(b.toNat:Int)) (by simpa using hm) (fun i hi=>by
      have hi':i<p.length:=by omega
      have h:=hc i (.int .u8 (p[i].toNat:Int)) (by simp [bytesL,hi'])
      rw [h]
      simp [List.getD,hi']) U hu
    have e:strOfNums (p.map fun b=>(b.toNat:Int))=⟨p.toArray⟩:=by
      simp [strOfNums,Function.comp_def]
    simp [this,e]
end
end Sx
namespace Sx
open Go Go.RowKit
section
variable {w0 w:World} {M:List Nat} {hs:List Res}
def pickL {α:Type} (l:List α):List Nat→Option (List α)
  | []=>some []
  | i::is=>match nth l i with|none=>none|some x=>match pickL l is with|none=>none|some r=>some (x::r)
theorem apart_nth {hs:List Res} (h:Apart hs):∀ {i j:Nat} {r s:Res},i≠j→nth hs i=some r→nth hs j=some s→∀ k∈r.at?,k∉s.at?:=by
  induction hs with
  | nil=>intro i j r s _ h;simp [nth] at h
  | cons x xs ih=>
    intro i j r s hij hi hj k hk hk'
    have hp:=List.pairwise_cons.1 h
    cases i with
    | zero=>
      cases j with
      | zero=>exact hij rfl
      | succ j=>simp [nth] at hi hj;subst hi;exact hp.1 s (mem_nth hj) k hk hk'
    | succ i=>
      cases j with
      | zero=>simp [nth] at hi hj;subst hj;exact hp.1 r (mem_nth hi) k hk' hk
      | succ j=>simp [nth] at hi hj;exact ih hp.2 (by omega) hi hj k hk hk'
theorem mem_pick {α:Type} {l:List α}:∀ {is:List Nat} {r:List α},pickL l is=some r→∀ x∈r,∃ i∈is,nth l i=some x
  | [],r,h,x,hx=>by simp [pickL] at h;subst h;simp at hx
  | i::is,r,h,x,hx=>by
    simp only [pickL] at h
    split at h
    · cases h
    · rename_i y hy
      split at h
      · cases h
      · rename_i q hq
        cases h
        rcases List.mem_cons.1 hx with rfl|hx
        · exact⟨i,.head _,hy⟩
        · obtain⟨j,hj,hn⟩:=mem_pick hq x hx
          exact⟨j,.tail _ hj,hn⟩
theorem St.pick (st:St w0 M hs w) (is:List Nat) {hs':List Res} (h:pickL hs is=some hs') (hn:is.Nodup):St w0 M hs' w:=by
  refine⟨st.chg,?_,fun r hr=>?_⟩
  · have hnd:=st.nodup
    clear st
    induction is generalizing hs' with
    | nil=>simp [pickL] at h;subst h;exact List.Pairwise.nil
    | cons i is ih=>
      simp only [pickL] at h
      split at h
      · cases h
      · rename_i y hy
        split at h
        · cases h
        · rename_i q hq
          cases h
          have hn':=List.nodup_cons.1 hn
          refine List.pairwise_cons.2 ⟨fun s hs k hk=>?_,ih hq hn'.2⟩
          obtain⟨j,hj,hs⟩:=mem_pick hq s hs
          exact apart_nth hnd (fun e=>hn'.1 (by subst e;exact hj)) hy hs k hk
  · obtain⟨i,_,hi⟩:=mem_pick h r hr
    exact st.here r (mem_nth hi)
end
end Sx
/- The engine,fourteenth part: arguments opened,and shut as they were. -/
namespace Sx
open Go Go.RowKit
section
variable {H:Type} {enc:TypeId×Value→H} {P:Program}
theorem trod_shut (hl:laidOutB P=true) {w w':World} (hb:Below w.heap.size w w') {t:TypeId} {v:Value} {d:DataW H} {ps:List MemPlace} (hr:P.readableRec t=true) (ht:t<P.types.size)
    (h:DataW.Trod enc P w 0 (fun _=>true) true t v d ps) (hlt:∀ x∈ps,x.block<w.heap.size):DataW.Trod enc P w' 0 (fun b=>decide (b<w.heap.size)) true t v d ps:=by
  obtain⟨fuel,hf⟩:=h
  exact⟨fuel,DataW.trod_stays (kids_book hl hr) (book_sized hr) (fun h=>by cases h) ⟨ht,book_self t⟩ hf (fun x hx=>hb.same (hlt x hx)) (fun x hx=>by simpa using hlt x hx)⟩
theorem trodAll_shut (hl:laidOutB P=true) {w w':World} (hb:Below w.heap.size w w'):∀ {ts:List TypeId} {vs:List Value} {ds:List (DataW H)} {ps:List MemPlace},(ts.all fun t=>P.readableRec t && decide (t<P.types.size))=true→
    DataW.TrodAll enc P w 0 (fun _=>true) true ts vs ds ps→(∀ x∈ps,x.block<w.heap.size)→DataW.TrodAll enc P w' 0 (fun b=>decide (b<w.heap.size)) true ts vs ds ps
  | [],[],[],ps,_,h,_=>h
  | t::ts,v::vs,d::ds,ps,hr,h,hlt=>by
    obtain⟨p,q,h1,h2,rfl⟩:=h
    simp only [List.all_cons,Bool.and_eq_true,decide_eq_true_eq] at hr
    exact⟨p,q,trod_shut hl hb hr.1.1 hr.1.2 h1 (fun x hx=>hlt x (List.mem_append.2 (.inl hx))),trodAll_shut hl hb (by simpa using hr.2) h2 (fun x hx=>hlt x (List.mem_append.2 (.inr hx))),rfl⟩
  | [],[],_::_,_,_,h,_=>h.elim
  | [],_::_,_,_,_,h,_=>h.elim
  | _::_,[],_,_,_,h,_=>h.elim
  | _::_,_::_,[],_,_,h,_=>h.elim
end
end Sx
/- The engine,fifteenth part: the trees of the language,as memory holds them. -/
namespace Sx
open Go Go.RowKit
inductive Ex where
  | mk (k op wd:Int) (nm:List UInt8) (kids:List Ex) (a:Int)
inductive Sm where
  | mk (k:Int) (nm other:List UInt8) (e:List Ex) (body els:List Sm) (a:Int)
structure Dc where
  nm:List UInt8
  wd:Int
  a:Int
structure Th where
  nm:List UInt8
  locals:List Dc
  body:List Sm
  a:Int
structure Pg where
  shared:List Dc
  locks:List Dc
  threads:List Th
def dc0:Dc:=⟨[],0,0⟩
namespace Ex
def k:Ex→Int | .mk k _ _ _ _ _=>k
def op:Ex→Int | .mk _ op _ _ _ _=>op
def wd:Ex→Int | .mk _ _ wd _ _ _=>wd
def nm:Ex→List UInt8 | .mk _ _ _ nm _ _=>nm
def kids:Ex→List Ex | .mk _ _ _ _ kids _=>kids
def a:Ex→Int | .mk _ _ _ _ _ a=>a
end Ex
namespace Sm
def k:Sm→Int | .mk k _ _ _ _ _ _=>k
def nm:Sm→List UInt8 | .mk _ nm _ _ _ _ _=>nm
def other:Sm→List UInt8 | .mk _ _ o _ _ _ _=>o
def e:Sm→List Ex | .mk _ _ _ e _ _ _=>e
def body:Sm→List Sm | .mk _ _ _ _ b _ _=>b
def els:Sm→List Sm | .mk _ _ _ _ _ e _=>e
def a:Sm→Int | .mk _ _ _ _ _ _ a=>a
end Sm
def RowC (w:World) (S:Nat→Prop) (sz:Nat) (oa:Option Addr) (n:Nat) (vs:Nat→List Value):Prop:=
  n=0∨∃ b off,oa=some ⟨b,off,none⟩∧S b∧b<w.heap.size∧∀ j,j<n→(vs j).length=sz∧∀ i v,(vs j)[i]?=some v→w.cell? ⟨b,off+j*sz+i,none⟩=some v
def Same (S:Nat→Prop) (w w':World):Prop:=w.heap.size≤w'.heap.size∧∀ b,S b→b<w.heap.size→w'.heap[b]?=w.heap[b]?
theorem Same.of_chg {M:List Nat} {S:Nat→Prop} {w w':World} (c:Chg M w w') (h:∀ b,S b→b∉M):Same S w w':=⟨c.size,fun b hb hl=>c.block b hl (h b hb)⟩
theorem Same.of_nil {S:Nat→Prop} {w w':World} (c:Chg [] w w'):Same S w w':=.of_chg c (by simp)
theorem RowC.kept {w w':World} {S:Nat→Prop} {sz:Nat} {oa:Option Addr} {n:Nat} {vs:Nat→List Value} (h:RowC w S sz oa n vs) (k:Same S w w'):RowC w' S sz oa n vs:=
  h.imp id fun ⟨b,off,e,hb,hl,hc⟩=>⟨b,off,e,hb,Nat.lt_of_lt_of_le hl k.1,fun j hj=>⟨(hc j hj).1,fun i v hi=>(World.cell?_of_block (k.2 b hb hl)).trans ((hc j hj).2 i v hi)⟩⟩
theorem RowC.mono {w:World} {S S':Nat→Prop} {sz:Nat} {oa:Option Addr} {n:Nat} {vs:Nat→List Value} (h:RowC w S sz oa n vs) (k:∀ b,S b→S' b):RowC w S' sz oa n vs:=
  h.imp id fun ⟨b,off,e,hb,hl,hc⟩=>⟨b,off,e,k b hb,hl,hc⟩
inductive ExV (w:World) (S:Nat→Prop):Ex→List Value→Prop
  | mk {k op wd:Int} {nm:List UInt8} {kids:List Ex} {a:Int} {oa:Option Addr} {cap:Nat} (vs:Nat→List Value) (hr:RowC w S 6 oa kids.length vs) (hk:∀ j x,kids[j]?=some x→ExV w S x (vs j)) :
      ExV w S (.mk k op wd nm kids a) [.int .u8 k,.int .u8 op,.int .i64 wd,str nm,.slice oa kids.length cap,.int .i64 a]
theorem ExV.kept {w w':World} {S:Nat→Prop} {e:Ex} {l:List Value} (h:ExV w S e l) (k:Same S w w'):ExV w' S e l:=by
  induction h with
  | mk vs hr hk ih=>exact .mk vs (hr.kept k) ih
def ExRow (w:World) (S:Nat→Prop) (oa:Option Addr) (es:List Ex):Prop:=∃ vs,RowC w S 6 oa es.length vs∧∀ j x,es[j]?=some x→ExV w S x (vs j)
theorem ExRow.kept {w w':World} {S:Nat→Prop} {oa:Option Addr} {es:List Ex} (h:ExRow w S oa es) (k:Same S w w'):ExRow w' S oa es:=by
  obtain⟨vs,h1,h2⟩:=h
  exact⟨vs,h1.kept k,fun j x hx=>(h2 j x hx).kept k⟩
inductive SmV (w:World) (S:Nat→Prop):Sm→List Value→Prop
  | mk {k:Int} {nm other:List UInt8} {e:List Ex} {body els:List Sm} {a:Int} {oe ob ol:Option Addr} {ce cb cl:Nat} (vb vl:Nat→List Value) (he:ExRow w S oe e)
      (hb:RowC w S 7 ob body.length vb) (hbk:∀ j x,body[j]?=some x→SmV w S x (vb j)) (hl:RowC w S 7 ol els.length vl) (hlk:∀ j x,els[j]?=some x→SmV w S x (vl j)) :
      SmV w S (.mk k nm other e body els a) [.int .u8 k,str nm,str other,.slice oe e.length ce,.slice ob body.length cb,.slice ol els.length cl,.int .i64 a]
theorem SmV.kept {w w':World} {S:Nat→Prop} {s:Sm} {l:List Value} (h:SmV w S s l) (k:Same S w w'):SmV w' S s l:=by
  induction h with
  | mk vb vl he hb hbk hl hlk ih1 ih2=>exact .mk vb vl (he.kept k) (hb.kept k) ih1 (hl.kept k) ih2
def SmRow (w:World) (S:Nat→Prop) (oa:Option Addr) (ss:List Sm):Prop:=∃ vs,RowC w S 7 oa ss.length vs∧∀ j x,ss[j]?=some x→SmV w S x (vs j)
theorem SmRow.kept {w w':World} {S:Nat→Prop} {oa:Option Addr} {es:List Sm} (h:SmRow w S oa es) (k:Same S w w'):SmRow w' S oa es:=by
  obtain⟨vs,h1,h2⟩:=h
  exact⟨vs,h1.kept k,fun j x hx=>(h2 j x hx).kept k⟩
def dcL (d:Dc):List Value:=[str d.nm,.int .i64 d.wd,.int .i64 d.a]
def DcRow (w:World) (S:Nat→Prop) (oa:Option Addr) (ds:List Dc):Prop:=RowC w S 3 oa ds.length (fun j=>dcL (ds.getD j dc0))
def ThV (w:World) (S:Nat→Prop) (t:Th) (l:List Value):Prop:=∃ ol cl ob cb,l=[str t.nm,.slice ol t.locals.length cl,.slice ob t.body.length cb,.int .i64 t.a]∧DcRow w S ol t.locals∧SmRow w S ob t.body
theorem ThV.kept {w w':World} {S:Nat→Prop} {t:Th} {l:List Value} (h:ThV w S t l) (k:Same S w w'):ThV w' S t l:=by
  obtain⟨ol,cl,ob,cb,h1,h2,h3⟩:=h
  exact⟨ol,cl,ob,cb,h1,RowC.kept h2 k,h3.kept k⟩
def ThRow (w:World) (S:Nat→Prop) (oa:Option Addr) (ts:List Th):Prop:=∃ vs,RowC w S 4 oa ts.length vs∧∀ j x,ts[j]?=some x→ThV w S x (vs j)
theorem ThRow.kept {w w':World} {S:Nat→Prop} {oa:Option Addr} {es:List Th} (h:ThRow w S oa es) (k:Same S w w'):ThRow w' S oa es:=by
  obtain⟨vs,h1,h2⟩:=h
  exact⟨vs,h1.kept k,fun j x hx=>(h2 j x hx).kept k⟩
def PgV (w:World) (S:Nat→Prop) (p:Pg) (l:List Value):Prop:=∃ os cs ol cl ot ct,l=[.slice os p.shared.length cs,.slice ol p.locks.length cl,.slice ot p.threads.length ct]∧DcRow w S os p.shared∧DcRow w S ol p.locks∧ThRow w S ot p.threads
end Sx
/- The engine,twentieth part: trees whose numbers are of their kinds;how great they are;arguments that are trees,opened. -/
namespace Sx
open Go Go.RowKit
def i64 (x:Int):Prop:=-9223372036854775808≤x∧x≤9223372036854775807
def u8 (x:Int):Prop:=0≤x∧x≤255
inductive OkE:Ex→Prop
  | mk {k op wd:Int} {nm:List UInt8} {kids:List Ex} {a:Int} (h1:u8 k) (h2:u8 op) (h3:i64 wd) (h4:i64 a) (hn:kids.length≤1099511627776) (hk:∀ (j:Nat) x,kids[j]?=some x→OkE x):OkE (.mk k op wd nm kids a)
theorem OkE.k {e:Ex} (h:OkE e):u8 e.k:=by cases h;assumption
theorem OkE.op {e:Ex} (h:OkE e):u8 e.op:=by cases h;assumption
theorem OkE.wd {e:Ex} (h:OkE e):i64 e.wd:=by cases h;assumption
theorem OkE.a {e:Ex} (h:OkE e):i64 e.a:=by cases h;assumption
theorem OkE.kid {e x:Ex} {j:Nat} (h:OkE e) (hj:e.kids[j]?=some x):OkE x:=by cases h with|mk h1 h2 h3 h4 hn hk=>exact hk j x hj
def OkEs (es:List Ex):Prop:=es.length≤1099511627776∧∀ (j:Nat) x,es[j]?=some x→OkE x
theorem OkE.kids {e:Ex} (h:OkE e):OkEs e.kids:=⟨by cases h;assumption,fun j x hx=>h.kid hx⟩
inductive OkS:Sm→Prop
  | mk {k:Int} {nm other:List UInt8} {e:List Ex} {body els:List Sm} {a:Int} (h1:u8 k) (h2:i64 a) (he:OkEs e) (hnb:body.length≤1099511627776) (hb:∀ (j:Nat) x,body[j]?=some x→OkS x) (hnl:els.length≤1099511627776) (hl:∀ (j:Nat) x,els[j]?=some x→OkS x):OkS (.mk k nm other e body els a)
def OkSs (ss:List Sm):Prop:=ss.length≤1099511627776∧∀ (j:Nat) x,ss[j]?=some x→OkS x
theorem OkS.k {s:Sm} (h:OkS s):u8 s.k:=by cases h;assumption
theorem OkS.a {s:Sm} (h:OkS s):i64 s.a:=by cases h;assumption
theorem OkS.e {s:Sm} (h:OkS s):OkEs s.e:=by cases h;assumption
theorem OkS.body {s:Sm} (h:OkS s):OkSs s.body:=by cases h with|mk h1 h2 he hnb hb hnl hl=>exact⟨hnb,hb⟩
theorem OkS.els {s:Sm} (h:OkS s):OkSs s.els:=by cases h with|mk h1 h2 he hnb hb hnl hl=>exact⟨hnl,hl⟩
def OkD (ds:List Dc):Prop:=ds.length≤1099511627776∧∀ (j:Nat) x,ds[j]?=some x→i64 x.wd∧i64 x.a
def OkT (ts:List Th):Prop:=ts.length≤1099511627776∧∀ (j:Nat) t,ts[j]?=some t→OkD t.locals∧OkSs t.body∧i64 t.a
def OkP (p:Pg):Prop:=OkD p.shared∧OkD p.locks∧OkT p.threads
mutual
def szE:Ex→Nat
  | .mk k op wd nm kids a=>nm.length+szEs kids+1
termination_by structural e=>e
def szEs:List Ex→Nat
  | []=>0
  | e::r=>szE e+szEs r
termination_by structural l=>l
end
mutual
def szS:Sm→Nat
  | .mk k nm other e body els a=>nm.length+other.length+szEs e+szSs body+szSs els+1
termination_by structural e=>e
def szSs:List Sm→Nat
  | []=>0
  | e::r=>szS e+szSs r
termination_by structural l=>l
end
def szDs:List Dc→Nat
  | []=>0
  | d::r=>d.nm.length+1+szDs r
def szTs:List Th→Nat
  | []=>0
  | t::r=>t.nm.length+szDs t.locals+szSs t.body+1+szTs r
def szP (p:Pg):Nat:=szDs p.shared+szDs p.locks+szTs p.threads
structure TyIds where
  k1:TypeId
  op:TypeId
  wd:TypeId
  str:TypeId
  es:TypeId
  e:TypeId
  int:TypeId
  k2:TypeId
  ss:TypeId
  s:TypeId
  ds:TypeId
  d:TypeId
  ts:TypeId
  t:TypeId
  pg:TypeId
section
variable {H:Type} {enc:TypeId×Value→H} {P:Program} {w:World}
variable {I:TyIds}
end
end Sx
/- The engine,sixteenth part: arrays that are values;arrays in memory;the neg of a number. -/
namespace Sx
open Go Go.RowKit
section
variable {w0 w w':World} {M:List Nat} {hs:List Res}
variable {P:Program} {n:Fr} {L:List Oper} {Q:Exit→Act→World→Prop} {kn:Kn} {N:Act→World→Prop}
variable {d ty:Nat} {pos:String} {aft:Array Edge} {g:Option (Nat×Bool)}
theorem y_neg {T:Nat} {x:Operand} {k:IntKind} {p r:Int} (hx:evO kn x=some (.int k p)) (hr:k.wrap (0 - p)=r):Y P n kn w ⟨some d,.unOp .neg T x,ty,pos,aft,g⟩ (.int k r):=fun a ha=>by
  subst hr
  simp only [execOp,ha.ev hx]
  simp [Op.unary,Op.intArith,go_sem]
theorem run_part1 {T off:Nat} {cs:List Value} {v:Value} (ha:∀ w,(Go.isAgg T).run P w=.ok false w) (hv:nth cs off=some v):(part T cs.toArray off).run P w=.ok v w:=by
  rw [nth_eq] at hv
  unfold part
  simp [ha,hv]
theorem run_partA {T off sz:Nat} {cs vs:List Value} (ha:∀ w,(Go.isAgg T).run P w=.ok true w) (hs:∀ w,(Go.sizeOf T).run P w=.ok sz w) (hv:takeN sz (dropN cs off)=some vs):(part T cs.toArray off).run P w=.ok (.agg vs.toArray) w:=by
  obtain⟨h1,h2⟩:=takeN_spec hv
  rw [dropN_eq] at h1
  unfold part
  simp [ha,hs,h1]
theorem y_fld {T i off:Nat} {x:Operand} {cs:List Value} {fs:Array Field} {f:Field} {v:Value} (hx:evO kn x=some (.agg cs.toArray)) (ht:P.underlying T=some (.struct fs)) (hf:nth fs.toList i=some f) (ho:f.offset=off)
    (ha:∀ w,(Go.isAgg f.type).run P w=.ok false w) (hv:nth cs off=some v):Y P n kn w ⟨some d,.field T x i,ty,pos,aft,g⟩ v:=fun a hk=>by
  subst ho
  rw [nth_eq] at hf
  have hf':fs[i]?=some f:=by simpa using hf
  simp only [execOp,hk.ev hx]
  simp [Instr.field,run_underlying ht,hf',asAgg,run_part1 ha hv]
theorem y_ixa {T E i sz len:Nat} {x ix:Operand} {ik:IntKind} {ii:Int} {cs vs:List Value} (hx:evO kn x=some (.agg cs.toArray)) (hix:evO kn ix=some (.int ik ii)) (ht:P.underlying T=some (.array len E)) (hs:∀ w,(Go.sizeOf E).run P w=.ok sz w)
    (hi:ii=(i:Int)) (hlt:Nat.blt i len=true) (ha:∀ w,(Go.isAgg E).run P w=.ok true w) (hv:takeN sz (dropN cs (i*sz))=some vs):Y P n kn w ⟨some d,.index T x ix,ty,pos,aft,g⟩ (.agg vs.toArray):=fun a hk=>by
  subst hi
  have h2 : (i : Int) < (len : Int) := by have : i < len := by simpa [Nat.blt_eq] using hlt
                                          omega
  simp only [execOp,hk.ev hx,hk.ev hix]
  simp [Instr.index,asIntOf,run_underlying ht,hs,h2,run_partA ha hs hv]
  intro;omega
theorem y_sla {T E i sz len b off:Nat} {x lo:Operand} {ik:IntKind} {ii:Int} (hx:evO kn x=some (.pointer (some ⟨b,off,none⟩))) (hlo:evO kn lo=some (.int ik ii)) (ht:P.underlying T=some (.array len E))
    (hs:∀ w,(Go.sizeOf E).run P w=.ok sz w) (hi:ii=(i:Int)) (hlt:i<len):Y P n kn w ⟨some d,.slice T x (some lo) none none,ty,pos,aft,g⟩ (.slice (some ⟨b,off+i*sz,none⟩) (len - i) (len - i)):=fun a hk=>by
  subst hi
  have h1:i≤len:=by omega
  have h2:¬ len=i:=by omega
  simp only [execOp,Option.map_some,Option.map_none,hk.ev hx,hk.ev hlo]
  simp [Instr.sliceAt,Instr.sliceBounds,Instr.sliceBound,asIntOf,run_underlying ht,Instr.sureAddr,h1,h2,hs,addr_add]
theorem e_sta (st:St w0 M hs w) (i:Nat) {x y:Operand} {T b off E:Nat} {l l':List Value} {v:Value} (hw:gd L kn g=some true) (hx:evO kn x=some (.pointer (some ⟨b,off,none⟩)))
    (hy:evO kn y=some v) (h1:v.oneCell'=true) (hsz:∀ w,(Go.sizeOf T).run P w=.ok 1 w)
    (hi:nth hs i=some (.blk b (.cells l.toArray E (0,0)))) (hlt:off<l.length) (hl:l.set off v=l') (hm:b∈M∨w0.heap.size≤b)
    (next:∀ w',St w0 M (setNth hs i (.blk b (.cells l'.toArray E (0,0)))) w'→vN n N kn w'):vS P n L Q (⟨none,.store T x y,ty,pos,aft,g⟩) N kn w:=by
  refine e_st st i hw hx hy h1 hsz hi (by simpa [Nat.blt_eq] using hlt) hm (fun w' st'=>next w' ?_)
  rw [setNth_eq l off v,hl] at st'
  exact st'
end
end Sx
