/- A part of the proof: contracts of functions and plain laws; each theorem says its own conditions. -/
import Derived.Laws.OwnMore
import Derived.Laws.StructEq
import Derived.Great.BuildSlice
import Derived.Lib.AppendStr
import Derived.Laws.BytesArg
import Derived.Laws.MakeOwn
import Derived.WalkKit
import Derived.ProofKit
import Derived.OpenShut
import Derived.ChangeOld
import Derived.OpenVars
import Derived.Below
import Derived.Test.YtnmhlpnapgojjaaGreatDoorPrettyLaidK0
set_option linter.unusedVariables false
set_option linter.unusedSimpArgs false
/- The engine,fifth part: append. -/
namespace Sx
open Go Go.RowKit
section
variable {w0 w w':World} {M:List Nat} {hs:List Res}
theorem St.app (st:St w0 M hs w) {i e size n n':Nat} {v v':Value} {xs xs':List Value} (hi:nth hs i=some (.own v e size n xs)) (hg:w.grownBy w' v.ownBlock)
    (hown:w'.ownsRow w0.heap.size e size v' n' xs') (hat:v'.ownBlock=v.ownBlock∨v'.ownBlock=some w.heap.size) :
    St w0 M (zA0 hs i (.own v' e size n' xs')) w':=
  st.swap hi (Chg.of_grownByO hg) (by simp [Res.at?]) (fun k hk=>.inr ((World.ownsRow.lt (st.res hi) k (by simpa using hk)).1)) (fun k hk=>by
    simp only [Res.at?] at hk ⊢
    rcases hat with h|h
    · rw [h] at hk;exact .inl hk
    · rw [h] at hk;simp at hk;exact .inr (by omega)) hown
theorem St.ownNil (st:St w0 M hs w) (e size:Nat):St w0 M (.own (.slice none 0 0) e size 0 []::hs) w:=
  st.pushR (Chg.refl _ _) (World.ownsRow_nil w _ e size) (by simp [Res.at?,Value.ownBlock])
theorem qF7 {base base' e size n:Nat} {v:Value} {xs:List Value} (h:w.ownsRow base e size v n xs) (hb:base'≤base):w.ownsRow base' e size v n xs:=
  ⟨h.1,h.2.imp id fun ⟨g,cap,cur,h1,h2,h3⟩=>⟨g,cap,cur,h1,Nat.le_trans hb h2,h3⟩⟩
theorem St.pushOwn (st:St w0 M hs w) (c:Chg [] w w') {v:Value} {e size n:Nat} {xs:List Value} (h:w'.ownsRow w.heap.size e size v n xs):St w0 M (.own v e size n xs::hs) w':=
  st.pushR c (qF7 h st.chg.size) (fun k hk=>(World.ownsRow.lt h k (by simpa [Res.at?] using hk)).1)
variable {P:Program} {n:Fr} {L:List Oper} {Q:Exit→Act→World→Prop} {kn:Kn} {N:Act→World→Prop}
variable {d ty:Nat} {pos:String} {aft:Array Edge} {g:Option (Nat×Bool)}
theorem qE3 (st:St w0 M hs w) (i j:Nat) {T E size bytes m len c b:Nat} {x y:Operand} {v z:Value} {xs l:List Value} {fz:Nat×Nat} {ti:TypeInfo} (hw:gd L kn g=some true) (hd:zI7 n (some d)=true)
    (hx:evO kn x=some v) (hy:evO kn y=some (.slice (some ⟨b,0,none⟩) m c)) (hi:nth hs i=some (.own v E size len xs)) (hj:nth hs j=some (.blk b (.cells l.toArray E fz)))
    (ht:P.underlying T=some (.slice E)) (hinfo:P.info? E=some ti) (hz:ti.zero=some z) (hsize:ti.size=size) (hby:ti.bytes=bytes) (hzs:z.cells.size=size) (hsz:Nat.blt 0 size=true)
    (hl:l.length=m*size) (h1:qR4 l=true) (hm:Nat.blt 0 m=true) (h63:len+m≤maxLen) (hbytes:(len+m)*bytes≤140737488355328)
    (next:∀ oa cap w',St w0 M (zA0 hs i (.own (.slice oa (len+m) cap) E size (len+m) (xs++l))) w'→vN n N ((d,.slice oa (len+m) cap)::kn) w') :
    vS P n L Q ⟨some d,.call ⟨.builtin .append,#[x,y],#[T,T]⟩,ty,pos,aft,g⟩ N kn w:=by
  have hb:w.heap[b]?=some (.cells l.toArray E fz):=st.res hj
  have hm':0<m:=by simpa [Nat.blt_eq] using hm
  obtain⟨v',w',hr,hown,hg,hnil,hat⟩:=run_append_own_at (P:=P) w w0.heap.size T ty E ti z size bytes ht hinfo hz hsize hby hzs (by simpa [Nat.blt_eq] using hsz) v len xs (st.res hi) ⟨b,0,none⟩ m c l hl
    (fun k u hk=>by rw [zP4];exact zO hb (by rw [zL8];simpa using hk)) (qK8 h1) h63 hbytes st.chg.size
  obtain⟨oa,cap,rfl⟩:∃ oa cap,v'=.slice oa (len+m) cap:=by
    rcases hown.2 with ⟨rfl,h0⟩|⟨g,cap,cur,rfl,_⟩
    · omega
    · exact⟨_,_,rfl⟩
  refine e_bi [v,.slice (some ⟨b,0,none⟩) m c] hw hd (by simp [hx,hy]) (w':=w') (fun cs=>?_) (next oa cap w' (st.app hi hg hown hat))
  simp only [builtin,Sem.run_bind,List.toArray,hr]
  rfl
end
end Sx
/- The engine,sixth part: loads from a row that is owned. -/
namespace Sx
open Go Go.RowKit
section
variable {w0 w w':World} {M:List Nat} {hs:List Res}
variable {P:Program} {n:Fr} {L:List Oper} {Q:Exit→Act→World→Prop} {kn:Kn} {N:Act→World→Prop}
variable {d ty:Nat} {pos:String} {aft:Array Edge} {g:Option (Nat×Bool)}
theorem qD7 {base e size len cap b off:Nat} {xs:List Value} {v:Value} (h:w.ownsRow base e size (.slice (some ⟨b,0,none⟩) len cap) len xs) (hv:xs[off]?=some v):w.cell? ⟨b,off,none⟩=some v:=by
  have hl:off<xs.length:=(List.getElem?_eq_some_iff.1 hv).1
  rw [World.ownsRow.cellAt h off (by rw [← h.1];exact hl),hv]
theorem y_ldo (st:St w0 M hs w) (i:Nat) {x:Operand} {T b off e size len cap:Nat} {xs:List Value} {v:Value} (hx:evO kn x=some (.pointer (some ⟨b,off,none⟩)))
  (ha:∀ w,(Go.isAgg T).run P w=.ok false w) (hi:nth hs i=some (.own (.slice (some ⟨b,0,none⟩) len cap) e size len xs)) (hv:xs[off]?=some v):Y P n kn w ⟨some d,.load T x,ty,pos,aft,g⟩ v:=
  zD8 hx ha (qD7 (st.res hi) hv)
theorem jB1 (st:St w0 M hs w) (i:Nat) {x:Operand} {T b off e size len cap sz:Nat} {xs:List Value} {vs:List Value} (hx:evO kn x=some (.pointer (some ⟨b,off,none⟩)))
  (ha:∀ w,(Go.isAgg T).run P w=.ok true w) (hsz:∀ w,(Go.sizeOf T).run P w=.ok sz w) (hi:nth hs i=some (.own (.slice (some ⟨b,0,none⟩) len cap) e size len xs)) (hl:vs.length=sz)
  (hv:∀ j v,vs[j]?=some v→xs[off+j]?=some v):Y P n kn w ⟨some d,.load T x,ty,pos,aft,g⟩ (.agg vs.toArray):=
  zE6 vs hx ha hsz hl (fun j v hj=>qD7 (st.res hi) (hv j v hj))
theorem qI4 {base e size n:Nat} {v:Value} {xs:List Value} (h:w.ownsRow base e size v n xs) (hn:0<n) :
    ∃ g cap,v=.slice (some ⟨g,0,none⟩) n cap∧base≤g:=by
  rcases h.2 with ⟨_,h0⟩|⟨g,cap,cur,hv,hb,hg,_⟩
  · omega
  · exact⟨g,cap,hv,hb⟩
end
end Sx
/- The engine,seventh part: append of a row that can be read;stores into a row that is owned;slice literals. -/
namespace Sx
open Go Go.RowKit
section
variable {w0 w w':World} {M:List Nat} {hs:List Res}
variable {P:Program} {n:Fr} {L:List Oper} {Q:Exit→Act→World→Prop} {kn:Kn} {N:Act→World→Prop}
variable {d ty:Nat} {pos:String} {aft:Array Edge} {g:Option (Nat×Bool)}
theorem zY7 (st:St w0 M hs w) {T E len:Nat} {parts:Array (Nat×Operand)} {l:List Value} (vals:List (Nat×Value)) (hw:gd L kn g=some true) (hd:zI7 n (some d)=true)
    (hv:parts.toList.map (fun p=>(evO kn p.2).map (p.1,·))=vals.map some)
    (hrun:∀ w,(Instr.buildSlice T len vals.toArray).run P w=.ok (.slice (some ⟨w.heap.size,0,none⟩) len len) (w.alloc (.cells l.toArray E (0,0))))
    (next:∀ b w',w0.heap.size≤b→St w0 M (.blk b (.cells l.toArray E (0,0))::hs) w'→vN n N ((d,.slice (some ⟨b,0,none⟩) len len)::kn) w') :
    vS P n L Q ⟨some d,.buildSlice T len parts,ty,pos,aft,g⟩ N kn w:=by
  refine kM1 st (v:=.slice (some ⟨w.heap.size,0,none⟩) len len) (l:=l) (E:=E) hw hd (fun a ha=>?_) (fun b w' e hb st'=>by subst e;exact next _ w' hb st')
  have hargs:(parts.map fun (i,x)=>(i,a.eval x))=vals.toArray:=by
    apply Array.toList_inj.1
    rw [Array.toList_map]
    generalize parts.toList=az at hv
    simp only
    clear hrun
    induction az generalizing vals with
    | nil=>cases vals with|nil=>rfl|cons v vs=>simp at hv
    | cons x xs ih=>
      cases vals with
      | nil=>simp at hv
      | cons v vs=>
        simp only [List.map_cons,List.cons.injEq] at hv
        obtain⟨h1,h2⟩:=hv
        cases hx:evO kn x.2 with
        | none=>simp [hx] at h1
        | some u=>
          simp only [hx,Option.map_some,Option.some.injEq] at h1
          subst h1
          simp only [List.map_cons,ha.ev hx,ih vs h2]
  simp only [execOp,hargs,Sem.run_bind,hrun,Result.andThen_ok,Sem.run_pure]
theorem St.toOwn {b E:Nat} {l:List Value} (st:St w0 M (.blk b (.cells l.toArray E (0,0))::hs) w) {len size:Nat} (hb:w0.heap.size≤b) (hlen:l.length=len*size) (hm:len≤maxLen) :
    St w0 M (.own (.slice (some ⟨b,0,none⟩) len len) E size len l::hs) w:=by
  have hh:=st.res (i:=0) rfl
  refine st.turn0 (fun k hk=>by simpa [Res.at?,Value.ownBlock] using hk) ⟨hlen,.inr ⟨b,len,l.toArray,rfl,hb,hh,Nat.le_refl _,hm,by simpa using hlen,?_⟩⟩
  simp only [← hlen]
  exact List.take_of_length_le (by simp)
end
end Sx
/- The engine,twelfth part: slices of slices;what a row that is owned reads as. -/
namespace Sx
open Go Go.RowKit
section
variable {w0 w w':World} {M:List Nat} {hs:List Res}
variable {P:Program} {n:Fr} {L:List Oper} {Q:Exit→Act→World→Prop} {kn:Kn} {N:Act→World→Prop}
variable {d ty:Nat} {pos:String} {aft:Array Edge} {g:Option (Nat×Bool)}
theorem qM4 (a:Addr):a.add 0=a:=by unfold Addr.add;simp
theorem jM2 {x hi:Operand} {T E sz j len cap:Nat} {oa:Option Addr} {jk:IntKind} {jj:Int} (hx:evO kn x=some (.slice oa len cap))
  (hhi:evO kn hi=some (.int jk jj)) (ht:P.underlying T=some (.slice E)) (hs:∀ w,(Go.sizeOf E).run P w=.ok sz w) (hj1:jj=(j:Int)) (hj:j≤cap):Y P n kn w ⟨some d,.slice T x none (some hi) none,ty,pos,aft,g⟩ (.slice oa j cap):=
  (fun a ha=>by
    subst hj1
    have h2:(j:Int)≤(cap:Int):=by omega
    simp only [execOp,Option.map_some,Option.map_none,ha.ev hx,ha.ev hhi]
    simp only [Instr.sliceAt,Instr.slice,Instr.sliceBounds,Instr.sliceBound,asIntOf,Sem.run_bind,run_underlying ht,Result.andThen_ok,hs]
    simp [hj,hs]
    intro _;cases oa <;> simp [qM4])
end
end Sx
/- The engine,thirteenth part: bytes: append of a string's,a string of bytes;max;make. -/
namespace Sx
open Go Go.RowKit Go.Lib
abbrev zE2 (l:List UInt8):List Value:=l.map fun b=>Value.int .u8 (b.toNat:Int)
theorem gP0 (l:List UInt8):strCells ⟨l.toArray⟩=zE2 l:=by simp [strCells]
section
variable {w0 w w':World} {M:List Nat} {hs:List Res}
variable {P:Program} {n:Fr} {L:List Oper} {Q:Exit→Act→World→Prop} {kn:Kn} {N:Act→World→Prop}
variable {d ty:Nat} {pos:String} {aft:Array Edge} {g:Option (Nat×Bool)}
def gT4 (w:World) (oa:Option Addr) (c:Nat) (l:List Value):Prop:=(oa=none∧l=[]∧c=0)∨∃ b off,oa=some ⟨b,off,none⟩∧∀ k u,l[k]?=some u→w.cell? ⟨b,off+k,none⟩=some u
theorem gA {base e size m c:Nat} {oa:Option Addr} {xs:List Value} (h:w.ownsRow base e size (.slice oa m c) m xs):gT4 w oa c xs:=by
  rcases Nat.eq_zero_or_pos m with hm|hm
  · subst hm
    have h0:xs=[]:=by apply List.eq_nil_of_length_eq_zero;rw [h.1];simp
    subst h0
    rcases h.2 with ⟨e,_⟩|⟨g,cap,cur,e,_⟩
    · simp only [Value.slice.injEq] at e;exact .inl ⟨e.1,rfl,e.2.2⟩
    · simp only [Value.slice.injEq] at e;exact .inr ⟨g,0,e.1,fun k u hk=>by simp at hk⟩
  · obtain⟨g,cap,e,_⟩:=qI4 h hm
    simp only [Value.slice.injEq] at e
    obtain⟨rfl,-,rfl⟩:=e
    exact .inr ⟨g,0,rfl,fun k u hk=>by rw [Nat.zero_add];exact qD7 h hk⟩
theorem jD5 (base:Nat) {T U tyy E:Nat} {ti:TypeInfo} (ht:P.underlying T=some (.slice E)) (hu:P.underlying U=some .string) (hi:P.info? E=some ti) (hz:ti.zero=some (.int .u8 0)) (hsize:ti.size=1) (hby:ti.bytes=1)
    {v:Value} {m:Nat} {xs:List Value} (hown:w.ownsRow base E 1 v m xs) (p:List UInt8) (h63:m+p.length≤maxLen) (hbytes:m+p.length≤140737488355328) (hbase:base≤w.heap.size) :
    ∃ v' w',(Builtin.append_ #[T,U] tyy #[v,str p]).run P w=.ok v' w'∧w'.ownsRow base E 1 v' (m+p.length) (xs++zE2 p)∧w.grownBy w' v.ownBlock∧(∀ k,v'.ownBlock=some k→v.ownBlock=some k∨w.heap.size≤k):=by
  have hs:(⟨p.toArray⟩:ByteArray).size=p.length:=rfl
  obtain⟨v',w',hr,ho,hg,hn⟩:=run_append_own_string (P:=P) (ty:=tyy) w base T U E ti ht hu hi hz hsize hby v m xs hown ⟨p.toArray⟩ h63 hbytes hbase
  rw [gP0,hs] at ho
  refine⟨v',w',hr,ho,hg,fun k hk=>?_⟩
  rcases hown.2 with ⟨rfl,rfl⟩|⟨b,cap,cur,rfl,hbg,hb,hnc,hcm,hcs,htake⟩
  · have hx:xs=[]:=List.eq_nil_of_length_eq_zero (by simpa using hown.1)
    subst hx
    obtain⟨v2,w2,hr2,ho2,_⟩:=run_append_own_string (P:=P) (ty:=tyy) w w.heap.size T U E ti ht hu hi hz hsize hby _ 0 [] (World.ownsRow_nil w _ E 1) ⟨p.toArray⟩ h63 hbytes (Nat.le_refl _)
    rw [hr] at hr2
    cases hr2
    exact .inr (World.ownsRow.lt ho2 k hk).1
  · have hcs':cur.size=cap:=by simpa using hcs
    have hxl:xs.length=m:=by simpa using hown.1
    by_cases hroom:m+p.length≤cap
    · have hr2:=run_append_room_string (P:=P) (ty:=tyy) w T U E ti ht hu hi hsize b m cap cur hb ⟨p.toArray⟩ hroom (by rw [hs];omega)
      rw [hr] at hr2
      cases hr2
      exact .inl hk
    · have hc:∀ j u,xs[j]?=some u→w.cell? ((⟨b,0,none⟩:Addr).add j)=some u:=World.ownsRow.cells hown rfl
      have hr2:=run_append_grow_string (P:=P) (ty:=tyy) w T U E ti (.int .u8 0) ht hu hi hz ⟨b,0,none⟩ m cap xs (by rw [hsize];simpa using hxl) hc ⟨p.toArray⟩ (by rw [hs];omega) (by unfold maxLen at h63;omega) (by rw [hby];exact growslice_fits (by omega) (by omega))
      rw [hr] at hr2
      cases hr2
      simp only [Value.ownBlock] at hk
      simp at hk
      exact .inr (by omega)
theorem qY5 {x:Operand} {T U E m c:Nat} {oa:Option Addr} {p:List UInt8} (hx:evO kn x=some (.slice oa m c)) (hrd:gT4 w oa c (zE2 p)) (hm:p.length=m)
    (ht:P.underlying T=some (.slice E)) (he:P.underlying E=some (.int .u8)) (hu:P.underlying U=some .string):Y P n kn w ⟨some d,.convert T U x,ty,pos,aft,g⟩ (str p):=fun a ha=>by
  simp only [execOp,ha.ev hx]
  rcases hrd with ⟨rfl,h0,rfl⟩|⟨b,off,rfl,hc⟩
  · obtain rfl:p=[]:=by simpa [zE2] using h0
    have:=run_convert_bytes_nil (P:=P) w T E ht he m 0 U hu
    simp [this]
    rfl
  · have:=run_convert_bytes_arg (P:=P) w T E ht he b off m c (p.map fun b=>(b.toNat:Int)) (by simpa using hm) (fun i hi=>by
      have hi':i<p.length:=by omega
      have h:=hc i (.int .u8 (p[i].toNat:Int)) (by simp [zE2,hi'])
      rw [h]
      simp [List.getD,hi']) U hu
    have e:strOfNums (p.map fun b=>(b.toNat:Int))=⟨p.toArray⟩:=by
      simp [strOfNums,Function.comp_def]
    simp [this,e]
end
end Sx
namespace Sx
open Go Go.RowKit
section
variable {w0 w:World} {M:List Nat} {hs:List Res}
def gQ9 {α:Type} (l:List α):List Nat→Option (List α)
  | []=>some []
  | i::is=>match nth l i with|none=>none|some x=>match gQ9 l is with|none=>none|some r=>some (x::r)
theorem zH3 {hs:List Res} (h:gR9 hs):∀ {i j:Nat} {r s:Res},i≠j→nth hs i=some r→nth hs j=some s→∀ k∈r.at?,k∉s.at?:=by
  induction hs with
  | nil=>intro i j r s _ h;simp [nth] at h
  | cons x xs ih=>
    intro i j r s hij hi hj k hk hk'
    have hp:=List.pairwise_cons.1 h
    cases i with
    | zero=>
      cases j with
      | zero=>exact hij rfl
      | succ j=>simp [nth] at hi hj;subst hi;exact hp.1 s (zM hj) k hk hk'
    | succ i=>
      cases j with
      | zero=>simp [nth] at hi hj;subst hj;exact hp.1 r (zM hi) k hk' hk
      | succ j=>simp [nth] at hi hj;exact ih hp.2 (by omega) hi hj k hk hk'
theorem gG8 {α:Type} {l:List α}:∀ {is:List Nat} {r:List α},gQ9 l is=some r→∀ x∈r,∃ i∈is,nth l i=some x
  | [],r,h,x,hx=>by simp [gQ9] at h;subst h;simp at hx
  | i::is,r,h,x,hx=>by
    simp only [gQ9] at h
    split at h
    · cases h
    · rename_i y hy
      split at h
      · cases h
      · rename_i q hq
        cases h
        rcases List.mem_cons.1 hx with rfl|hx
        · exact⟨i,.head _,hy⟩
        · obtain⟨j,hj,hn⟩:=gG8 hq x hx
          exact⟨j,.tail _ hj,hn⟩
theorem St.pick (st:St w0 M hs w) (is:List Nat) {hs':List Res} (h:gQ9 hs is=some hs') (hn:is.Nodup):St w0 M hs' w:=by
  refine⟨st.chg,?_,fun r hr=>?_⟩
  · have hnd:=st.nodup
    clear st
    induction is generalizing hs' with
    | nil=>simp [gQ9] at h;subst h;exact List.Pairwise.nil
    | cons i is ih=>
      simp only [gQ9] at h
      split at h
      · cases h
      · rename_i y hy
        split at h
        · cases h
        · rename_i q hq
          cases h
          have hn':=List.nodup_cons.1 hn
          refine List.pairwise_cons.2 ⟨fun s hs k hk=>?_,ih hq hn'.2⟩
          obtain⟨j,hj,hs⟩:=gG8 hq s hs
          exact zH3 hnd (fun e=>hn'.1 (by subst e;exact hj)) hy hs k hk
  · obtain⟨i,_,hi⟩:=gG8 h r hr
    exact st.here r (zM hi)
end
end Sx
/- The engine,fourteenth part: arguments opened,and shut as they were. -/
namespace Sx
open Go Go.RowKit
theorem gA3 {α:Type} (d:α):∀ (n:Nat) (P:Nat→α→Prop),(∀ i,i<n→∃ x,P i x)→∃ l:List α,l.length=n∧∀ i,i<n→P i (l.getD i d)
  | 0,P,h=>⟨[],rfl,fun i hi=>by omega⟩
  | n+1,P,h=>by
    obtain⟨x,hx⟩:=h 0 (by omega)
    obtain⟨l,hl,hP⟩:=gA3 d n (fun i=>P (i+1)) (fun i hi=>h (i+1) (by omega))
    refine⟨x::l,by simp [hl],fun i hi=>?_⟩
    cases i with
    | zero=>simpa using hx
    | succ i=>simpa using hP i (by omega)
section
variable {H:Type} {enc:TypeId×Value→H} {P:Program}
theorem kK0 (hl:laidOutB P=true) {w w':World} (hb:Below w.heap.size w w') {t:TypeId} {v:Value} {d:DataW H} {ps:List MemPlace} (hr:P.readableRec t=true) (ht:t<P.types.size)
    (h:DataW.Trod enc P w 0 (fun _=>true) true t v d ps) (hlt:∀ x∈ps,x.block<w.heap.size):DataW.Trod enc P w' 0 (fun b=>decide (b<w.heap.size)) true t v d ps:=by
  obtain⟨fuel,hf⟩:=h
  exact⟨fuel,DataW.trod_stays (kids_book hl hr) (book_sized hr) (fun h=>by cases h) ⟨ht,book_self t⟩ hf (fun x hx=>hb.same (hlt x hx)) (fun x hx=>by simpa using hlt x hx)⟩
theorem trodAll_shut (hl:laidOutB P=true) {w w':World} (hb:Below w.heap.size w w'):∀ {ts:List TypeId} {vs:List Value} {ds:List (DataW H)} {ps:List MemPlace},(ts.all fun t=>P.readableRec t && decide (t<P.types.size))=true→
    DataW.TrodAll enc P w 0 (fun _=>true) true ts vs ds ps→(∀ x∈ps,x.block<w.heap.size)→DataW.TrodAll enc P w' 0 (fun b=>decide (b<w.heap.size)) true ts vs ds ps
  | [],[],[],ps,_,h,_=>h
  | t::ts,v::vs,d::ds,ps,hr,h,hlt=>by
    obtain⟨p,q,h1,h2,rfl⟩:=h
    simp only [List.all_cons,Bool.and_eq_true,decide_eq_true_eq] at hr
    exact⟨p,q,kK0 hl hb hr.1.1 hr.1.2 h1 (fun x hx=>hlt x (List.mem_append.2 (.inl hx))),trodAll_shut hl hb (by simpa using hr.2) h2 (fun x hx=>hlt x (List.mem_append.2 (.inr hx))),rfl⟩
  | [],[],_::_,_,_,h,_=>h.elim
  | [],_::_,_,_,_,h,_=>h.elim
  | _::_,[],_,_,_,h,_=>h.elim
  | _::_,_::_,[],_,_,h,_=>h.elim
theorem kZ8 {w:World} {fuel:Nat} {t e:TypeId} {sz:Nat} {v:Value} {d:DataW H} {ps:List MemPlace} (ht:P.underlying t=some (.slice e)) (hsz:P.cellsOf e=sz) (h0:0<sz)
    (h:DataW.trod enc P w 0 (fun _=>true) true fuel t [v]=some (d,ps)):∃ (oa:Option Addr) (len cap n:Nat) (elems rest:List (DataW H)),v=.slice oa len cap∧elems.length=len∧len≤cap∧cap≤maxLen∧n<fuel∧
      ((d=.nil∧len=0∧cap=0∧oa=none)∨d=.slice elems rest)∧(len=0∨∃ b off,oa=some ⟨b,off,none⟩∧∀ j,j<len→∃ cs pp dd,cs.length=sz∧elems[j]?=some dd∧DataW.trod enc P w 0 (fun _=>true) true n e cs=some (dd,pp)∧
        ∀ i u,cs[i]?=some u→w.cell? ⟨b,off+j*sz+i,none⟩=some u):=by
  rcases DataW.trod_slice ht h with ⟨hc,hx⟩|⟨a,len,cap,elems,rest,n,rfl,hc,hx,hb,hlc,hcm,hlen,hel,-⟩
  · simp only [List.cons.injEq,and_true] at hc
    subst hc
    simp only [Prod.mk.injEq] at hx
    have hf:0<fuel:=by
      cases fuel with
      | zero=>simp [DataW.trod] at h
      | succ m=>omega
    exact⟨none,0,0,0,[],[],rfl,rfl,Nat.le_refl _,Nat.zero_le _,hf,.inl ⟨hx.1,rfl,rfl,rfl⟩,.inl rfl⟩
  · simp only [List.cons.injEq,and_true] at hc
    subst hc
    simp only [Prod.mk.injEq] at hx
    refine⟨some a,len,cap,n,elems.map (·.1),rest.map (·.1),rfl,by simpa using hlen,hlc,hcm,by omega,.inr hx.1,?_⟩
    rcases Nat.eq_zero_or_pos len with hl0|hl0
    · exact .inl hl0
    right
    have each:∀ j,j<len→∃ cs pp dd,cs.length=sz∧(elems.map (·.1))[j]?=some dd∧DataW.trod enc P w 0 (fun _=>true) true n e cs=some (dd,pp)∧∀ i u,cs[i]?=some u→w.cell? ((a.add (j*sz)).add i)=some u:=by
      intro j hj
      have h1:=hel j hj
      rw [hsz,List.getElem?_eq_getElem (by omega:j<elems.length),Option.bind_eq_some_iff] at h1
      obtain⟨cs,hcs,htr⟩:=h1
      obtain⟨-,hcl,hcell⟩:=World.cells?_some hcs
      refine⟨cs,elems[j].2,elems[j].1,hcl,by simp [List.getElem?_eq_getElem (by omega:j<elems.length)],htr,fun i u hi=>?_⟩
      have hlt:i<sz:=by have:=(List.getElem?_eq_some_iff.1 hi).1;omega
      rw [hcell i hlt,hi]
    obtain⟨b,off,spot⟩:=a
    have hspot:spot=none:=by
      obtain⟨cs,pp,dd,hcl,-,-,hc⟩:=each 0 hl0
      have:0<cs.length:=by omega
      have h2:=hc 0 cs[0] (by simp [this])
      rw [Nat.zero_mul,qM4,qM4] at h2
      exact World.cell?_spot h2
    subst hspot
    refine⟨b,off,rfl,fun j hj=>?_⟩
    obtain⟨cs,pp,dd,hcl,he,htr,hc⟩:=each j hj
    refine⟨cs,pp,dd,hcl,he,htr,fun i u hi=>?_⟩
    have:=hc i u hi
    rwa [zP4,zP4] at this
end
end Sx
/- The engine,fifteenth part: the trees of the language,as memory holds them. -/
namespace Sx
open Go Go.RowKit
inductive Ex where
  | mk (k op wd:Int) (nm:List UInt8) (kids:List Ex) (a:Int)
inductive Sm where
  | mk (k:Int) (nm other:List UInt8) (e:List Ex) (body els:List Sm) (a:Int)
structure Dc where
  nm:List UInt8
  wd:Int
  a:Int
structure Th where
  nm:List UInt8
  locals:List Dc
  body:List Sm
  a:Int
structure Pg where
  shared:List Dc
  locks:List Dc
  threads:List Th
def ex0:Ex:=.mk 0 0 0 [] [] 0
def sm0:Sm:=.mk 0 [] [] [] [] [] 0
def dc0:Dc:=⟨[],0,0⟩
def th0:Th:=⟨[],[],[],0⟩
namespace Ex
def k:Ex→Int | .mk k _ _ _ _ _=>k
def op:Ex→Int | .mk _ op _ _ _ _=>op
def wd:Ex→Int | .mk _ _ wd _ _ _=>wd
def nm:Ex→List UInt8 | .mk _ _ _ nm _ _=>nm
def kids:Ex→List Ex | .mk _ _ _ _ kids _=>kids
def a:Ex→Int | .mk _ _ _ _ _ a=>a
end Ex
namespace Sm
def k:Sm→Int | .mk k _ _ _ _ _ _=>k
def nm:Sm→List UInt8 | .mk _ nm _ _ _ _ _=>nm
def other:Sm→List UInt8 | .mk _ _ o _ _ _ _=>o
def e:Sm→List Ex | .mk _ _ _ e _ _ _=>e
def body:Sm→List Sm | .mk _ _ _ _ b _ _=>b
def els:Sm→List Sm | .mk _ _ _ _ _ e _=>e
def a:Sm→Int | .mk _ _ _ _ _ _ a=>a
end Sm
def RowC (w:World) (S:Nat→Prop) (sz:Nat) (oa:Option Addr) (n:Nat) (vs:Nat→List Value):Prop:=
  n=0∨∃ b off,oa=some ⟨b,off,none⟩∧S b∧b<w.heap.size∧∀ j,j<n→(vs j).length=sz∧∀ i v,(vs j)[i]?=some v→w.cell? ⟨b,off+j*sz+i,none⟩=some v
def Same (S:Nat→Prop) (w w':World):Prop:=w.heap.size≤w'.heap.size∧∀ b,S b→b<w.heap.size→w'.heap[b]?=w.heap[b]?
theorem Same.of_chg {M:List Nat} {S:Nat→Prop} {w w':World} (c:Chg M w w') (h:∀ b,S b→b∉M):Same S w w':=⟨c.size,fun b hb hl=>c.block b hl (h b hb)⟩
theorem Same.of_nil {S:Nat→Prop} {w w':World} (c:Chg [] w w'):Same S w w':=.of_chg c (by simp)
theorem RowC.kept {w w':World} {S:Nat→Prop} {sz:Nat} {oa:Option Addr} {n:Nat} {vs:Nat→List Value} (h:RowC w S sz oa n vs) (k:Same S w w'):RowC w' S sz oa n vs:=
  h.imp id fun ⟨b,off,e,hb,hl,hc⟩=>⟨b,off,e,hb,Nat.lt_of_lt_of_le hl k.1,fun j hj=>⟨(hc j hj).1,fun i v hi=>(World.cell?_of_block (k.2 b hb hl)).trans ((hc j hj).2 i v hi)⟩⟩
theorem RowC.mono {w:World} {S S':Nat→Prop} {sz:Nat} {oa:Option Addr} {n:Nat} {vs:Nat→List Value} (h:RowC w S sz oa n vs) (k:∀ b,S b→S' b):RowC w S' sz oa n vs:=
  h.imp id fun ⟨b,off,e,hb,hl,hc⟩=>⟨b,off,e,k b hb,hl,hc⟩
inductive ExV (w:World) (S:Nat→Prop):Ex→List Value→Prop
  | mk {k op wd:Int} {nm:List UInt8} {kids:List Ex} {a:Int} {oa:Option Addr} {cap:Nat} (vs:Nat→List Value) (hr:RowC w S 6 oa kids.length vs) (hk:∀ j x,kids[j]?=some x→ExV w S x (vs j)) :
      ExV w S (.mk k op wd nm kids a) [.int .u8 k,.int .u8 op,.int .i64 wd,str nm,.slice oa kids.length cap,.int .i64 a]
theorem ExV.kept {w w':World} {S:Nat→Prop} {e:Ex} {l:List Value} (h:ExV w S e l) (k:Same S w w'):ExV w' S e l:=by
  induction h with
  | mk vs hr hk ih=>exact .mk vs (hr.kept k) ih
theorem ExV.mono {w:World} {S S':Nat→Prop} {e:Ex} {l:List Value} (h:ExV w S e l) (k:∀ b,S b→S' b):ExV w S' e l:=by
  induction h with
  | mk vs hr hk ih=>exact .mk vs (hr.mono k) ih
theorem ExV.len {w:World} {S:Nat→Prop} {e:Ex} {l:List Value} (h:ExV w S e l):l.length=6:=by cases h;rfl
def ExRow (w:World) (S:Nat→Prop) (oa:Option Addr) (es:List Ex):Prop:=∃ vs,RowC w S 6 oa es.length vs∧∀ j x,es[j]?=some x→ExV w S x (vs j)
theorem ExRow.kept {w w':World} {S:Nat→Prop} {oa:Option Addr} {es:List Ex} (h:ExRow w S oa es) (k:Same S w w'):ExRow w' S oa es:=by
  obtain⟨vs,h1,h2⟩:=h
  exact⟨vs,h1.kept k,fun j x hx=>(h2 j x hx).kept k⟩
theorem ExRow.mono {w:World} {S S':Nat→Prop} {oa:Option Addr} {es:List Ex} (h:ExRow w S oa es) (k:∀ b,S b→S' b):ExRow w S' oa es:=by
  obtain⟨vs,h1,h2⟩:=h
  exact⟨vs,h1.mono k,fun j x hx=>(h2 j x hx).mono k⟩
inductive SmV (w:World) (S:Nat→Prop):Sm→List Value→Prop
  | mk {k:Int} {nm other:List UInt8} {e:List Ex} {body els:List Sm} {a:Int} {oe ob ol:Option Addr} {ce cb cl:Nat} (vb vl:Nat→List Value) (he:ExRow w S oe e)
      (hb:RowC w S 7 ob body.length vb) (hbk:∀ j x,body[j]?=some x→SmV w S x (vb j)) (hl:RowC w S 7 ol els.length vl) (hlk:∀ j x,els[j]?=some x→SmV w S x (vl j)) :
      SmV w S (.mk k nm other e body els a) [.int .u8 k,str nm,str other,.slice oe e.length ce,.slice ob body.length cb,.slice ol els.length cl,.int .i64 a]
theorem SmV.kept {w w':World} {S:Nat→Prop} {s:Sm} {l:List Value} (h:SmV w S s l) (k:Same S w w'):SmV w' S s l:=by
  induction h with
  | mk vb vl he hb hbk hl hlk ih1 ih2=>exact .mk vb vl (he.kept k) (hb.kept k) ih1 (hl.kept k) ih2
theorem SmV.mono {w:World} {S S':Nat→Prop} {s:Sm} {l:List Value} (h:SmV w S s l) (k:∀ b,S b→S' b):SmV w S' s l:=by
  induction h with
  | mk vb vl he hb hbk hl hlk ih1 ih2=>exact .mk vb vl (he.mono k) (hb.mono k) ih1 (hl.mono k) ih2
def SmRow (w:World) (S:Nat→Prop) (oa:Option Addr) (ss:List Sm):Prop:=∃ vs,RowC w S 7 oa ss.length vs∧∀ j x,ss[j]?=some x→SmV w S x (vs j)
theorem SmRow.kept {w w':World} {S:Nat→Prop} {oa:Option Addr} {es:List Sm} (h:SmRow w S oa es) (k:Same S w w'):SmRow w' S oa es:=by
  obtain⟨vs,h1,h2⟩:=h
  exact⟨vs,h1.kept k,fun j x hx=>(h2 j x hx).kept k⟩
theorem SmRow.mono {w:World} {S S':Nat→Prop} {oa:Option Addr} {es:List Sm} (h:SmRow w S oa es) (k:∀ b,S b→S' b):SmRow w S' oa es:=by
  obtain⟨vs,h1,h2⟩:=h
  exact⟨vs,h1.mono k,fun j x hx=>(h2 j x hx).mono k⟩
def dcL (d:Dc):List Value:=[str d.nm,.int .i64 d.wd,.int .i64 d.a]
def DcRow (w:World) (S:Nat→Prop) (oa:Option Addr) (ds:List Dc):Prop:=RowC w S 3 oa ds.length (fun j=>dcL (ds.getD j dc0))
def ThV (w:World) (S:Nat→Prop) (t:Th) (l:List Value):Prop:=∃ ol cl ob cb,l=[str t.nm,.slice ol t.locals.length cl,.slice ob t.body.length cb,.int .i64 t.a]∧DcRow w S ol t.locals∧SmRow w S ob t.body
theorem ThV.kept {w w':World} {S:Nat→Prop} {t:Th} {l:List Value} (h:ThV w S t l) (k:Same S w w'):ThV w' S t l:=by
  obtain⟨ol,cl,ob,cb,h1,h2,h3⟩:=h
  exact⟨ol,cl,ob,cb,h1,RowC.kept h2 k,h3.kept k⟩
theorem ThV.mono {w:World} {S S':Nat→Prop} {t:Th} {l:List Value} (h:ThV w S t l) (k:∀ b,S b→S' b):ThV w S' t l:=by
  obtain⟨ol,cl,ob,cb,h1,h2,h3⟩:=h
  exact⟨ol,cl,ob,cb,h1,RowC.mono h2 k,h3.mono k⟩
def ThRow (w:World) (S:Nat→Prop) (oa:Option Addr) (ts:List Th):Prop:=∃ vs,RowC w S 4 oa ts.length vs∧∀ j x,ts[j]?=some x→ThV w S x (vs j)
theorem ThRow.kept {w w':World} {S:Nat→Prop} {oa:Option Addr} {es:List Th} (h:ThRow w S oa es) (k:Same S w w'):ThRow w' S oa es:=by
  obtain⟨vs,h1,h2⟩:=h
  exact⟨vs,h1.kept k,fun j x hx=>(h2 j x hx).kept k⟩
theorem ThRow.mono {w:World} {S S':Nat→Prop} {oa:Option Addr} {es:List Th} (h:ThRow w S oa es) (k:∀ b,S b→S' b):ThRow w S' oa es:=by
  obtain⟨vs,h1,h2⟩:=h
  exact⟨vs,h1.mono k,fun j x hx=>(h2 j x hx).mono k⟩
def PgV (w:World) (S:Nat→Prop) (p:Pg) (l:List Value):Prop:=∃ os cs ol cl ot ct,l=[.slice os p.shared.length cs,.slice ol p.locks.length cl,.slice ot p.threads.length ct]∧DcRow w S os p.shared∧DcRow w S ol p.locks∧ThRow w S ot p.threads
end Sx
/- The engine,twentieth part: trees whose numbers are of their kinds;how great they are;arguments that are trees,opened. -/
namespace Sx
open Go Go.RowKit
def i64 (x:Int):Prop:=-9223372036854775808≤x∧x≤9223372036854775807
def u8 (x:Int):Prop:=0≤x∧x≤255
inductive OkE:Ex→Prop
  | mk {k op wd:Int} {nm:List UInt8} {kids:List Ex} {a:Int} (h1:u8 k) (h2:u8 op) (h3:i64 wd) (h4:i64 a) (hn:kids.length≤1099511627776) (hk:∀ (j:Nat) x,kids[j]?=some x→OkE x):OkE (.mk k op wd nm kids a)
theorem OkE.k {e:Ex} (h:OkE e):u8 e.k:=by cases h;assumption
theorem OkE.op {e:Ex} (h:OkE e):u8 e.op:=by cases h;assumption
theorem OkE.wd {e:Ex} (h:OkE e):i64 e.wd:=by cases h;assumption
theorem OkE.a {e:Ex} (h:OkE e):i64 e.a:=by cases h;assumption
theorem OkE.kid {e x:Ex} {j:Nat} (h:OkE e) (hj:e.kids[j]?=some x):OkE x:=by cases h with|mk h1 h2 h3 h4 hn hk=>exact hk j x hj
def gO2 (es:List Ex):Prop:=es.length≤1099511627776∧∀ (j:Nat) x,es[j]?=some x→OkE x
theorem OkE.kids {e:Ex} (h:OkE e):gO2 e.kids:=⟨by cases h;assumption,fun j x hx=>h.kid hx⟩
inductive OkS:Sm→Prop
  | mk {k:Int} {nm other:List UInt8} {e:List Ex} {body els:List Sm} {a:Int} (h1:u8 k) (h2:i64 a) (he:gO2 e) (hnb:body.length≤1099511627776) (hb:∀ (j:Nat) x,body[j]?=some x→OkS x) (hnl:els.length≤1099511627776) (hl:∀ (j:Nat) x,els[j]?=some x→OkS x):OkS (.mk k nm other e body els a)
def qO (ss:List Sm):Prop:=ss.length≤1099511627776∧∀ (j:Nat) x,ss[j]?=some x→OkS x
theorem OkS.k {s:Sm} (h:OkS s):u8 s.k:=by cases h;assumption
theorem OkS.a {s:Sm} (h:OkS s):i64 s.a:=by cases h;assumption
theorem OkS.e {s:Sm} (h:OkS s):gO2 s.e:=by cases h;assumption
theorem OkS.body {s:Sm} (h:OkS s):qO s.body:=by cases h with|mk h1 h2 he hnb hb hnl hl=>exact⟨hnb,hb⟩
theorem OkS.els {s:Sm} (h:OkS s):qO s.els:=by cases h with|mk h1 h2 he hnb hb hnl hl=>exact⟨hnl,hl⟩
def OkD (ds:List Dc):Prop:=ds.length≤1099511627776∧∀ (j:Nat) x,ds[j]?=some x→i64 x.wd∧i64 x.a
def OkT (ts:List Th):Prop:=ts.length≤1099511627776∧∀ (j:Nat) t,ts[j]?=some t→OkD t.locals∧qO t.body∧i64 t.a
def OkP (p:Pg):Prop:=OkD p.shared∧OkD p.locks∧OkT p.threads
mutual
def szE:Ex→Nat
  | .mk k op wd nm kids a=>nm.length+kA3 kids+1
termination_by structural e=>e
def kA3:List Ex→Nat
  | []=>0
  | e::r=>szE e+kA3 r
termination_by structural l=>l
end
mutual
def szS:Sm→Nat
  | .mk k nm other e body els a=>nm.length+other.length+kA3 e+gO3 body+gO3 els+1
termination_by structural e=>e
def gO3:List Sm→Nat
  | []=>0
  | e::r=>szS e+gO3 r
termination_by structural l=>l
end
def gV9:List Dc→Nat
  | []=>0
  | d::r=>d.nm.length+1+gV9 r
def jA8:List Th→Nat
  | []=>0
  | t::r=>t.nm.length+gV9 t.locals+gO3 t.body+1+jA8 r
def szP (p:Pg):Nat:=gV9 p.shared+gV9 p.locks+jA8 p.threads
mutual
def zK0 {H:Type}:DataW H→Nat
  | .lit (.string bytes)=>bytes.length+1
  | .lit _=>1
  | .nil=>1
  | .ptr d=>zK0 d+1
  | .slice elems spare=>zN6 elems+zN6 spare+1
  | .agg parts=>zN6 parts+1
  | .iface _ d=>zK0 d+1
  | .map _=>1
  | .held _=>1
def zN6 {H:Type}:List (DataW H)→Nat
  | []=>0
  | d::r=>zK0 d+zN6 r
end
theorem kQ0 {H:Type} (d:DataW H):1≤zK0 d:=by
  cases d with
  | lit l=>cases l <;> simp [zK0]
  | _=>simp [zK0] <;> omega
def qJ (P:Program) (t:TypeId) (ts:List TypeId):Bool:=match P.underlying t with
  | some (.struct fs)=>decide (fs.toList.map (fun f=>(f.type,f.offset,P.cellsOf f.type))=(List.range ts.length).map (fun i=>(ts.getD i 0,i,1))) && decide (P.cellsOf t=ts.length)
  | _=>false
def qD8 (P:Program) (t:TypeId) (k:IntKind):Bool:=match P.underlying t with|some (.int j)=>decide (j=k)|_=>false
def gT8 (P:Program) (t:TypeId):Bool:=match P.underlying t with|some .string=>true|_=>false
def zR6 (P:Program) (t e:TypeId):Bool:=match P.underlying t with|some (.slice x)=>decide (x=e)|_=>false
theorem zV4 {P:Program} {t:TypeId} {k:IntKind} (h:qD8 P t k=true):P.underlying t=some (.int k):=by
  unfold qD8 at h
  split at h
  · rename_i j hj;simp at h;subst h;exact hj
  · cases h
theorem qN {P:Program} {t:TypeId} (h:gT8 P t=true):P.underlying t=some .string:=by
  unfold gT8 at h
  split at h
  · assumption
  · cases h
theorem kD2 {P:Program} {t e:TypeId} (h:zR6 P t e=true):P.underlying t=some (.slice e):=by
  unfold zR6 at h
  split at h
  · rename_i j hj;simp at h;subst h;exact hj
  · cases h
structure TyIds where
  k1:TypeId
  op:TypeId
  wd:TypeId
  str:TypeId
  es:TypeId
  e:TypeId
  int:TypeId
  k2:TypeId
  ss:TypeId
  s:TypeId
  ds:TypeId
  d:TypeId
  ts:TypeId
  t:TypeId
  pg:TypeId
def gB7 (P:Program) (I:TyIds):Bool:=qJ P I.e [I.k1,I.op,I.wd,I.str,I.es,I.int] && qJ P I.s [I.k2,I.str,I.str,I.es,I.ss,I.ss,I.int] && qJ P I.d [I.str,I.wd,I.int] && qJ P I.t [I.str,I.ds,I.ss,I.int] && qJ P I.pg [I.ds,I.ds,I.ts] &&
  qD8 P I.k1 .u8 && qD8 P I.op .u8 && qD8 P I.wd .i64 && qD8 P I.int .i64 && qD8 P I.k2 .u8 && gT8 P I.str && zR6 P I.es I.e && zR6 P I.ss I.s && zR6 P I.ds I.d && zR6 P I.ts I.t
section
variable {H:Type} {enc:TypeId×Value→H} {P:Program} {w:World}
abbrev Tr (enc:TypeId×Value→H) (P:Program) (w:World) (fuel:Nat) (t:TypeId) (cs:List Value):=DataW.trod enc P w 0 (fun _=>true) true fuel t cs
theorem zX1 {t:TypeId} {ts:List TypeId} {fuel:Nat} {cs:List Value} {d:DataW H} {ps:List MemPlace} (hf:qJ P t ts=true) (h:Tr enc P w fuel t cs=some (d,ps)) :
    ∃ n ds,fuel=n+1∧d=.agg ds∧ds.length=ts.length∧cs.length=ts.length∧P.cellsOf t=ts.length∧∀ (i:Nat) a c di,ts[i]?=some a→cs[i]?=some c→ds[i]?=some di→∃ p,Tr enc P w n a [c]=some (di,p):=by
  unfold qJ at hf
  split at hf
  · rename_i fs ht
    simp only [Bool.and_eq_true,decide_eq_true_eq] at hf
    obtain⟨h1,h2⟩:=hf
    obtain⟨xs,n,rfl,hx,hl,hxl,hall⟩:=DataW.trod_struct ht h
    simp only [Prod.mk.injEq] at hx
    have hn:fs.size=ts.length:=by have:=congrArg List.length h1;simpa using this
    refine⟨n,xs.map (·.1),rfl,hx.1,by simp [hxl,hn],by omega,h2,fun i a c di ha hc hd=>?_⟩
    have hi:i<ts.length:=(List.getElem?_eq_some_iff.1 ha).1
    have hfi:fs[i]?=some fs[i]:=Array.getElem?_eq_getElem (by omega)
    have e:=congrArg (·[i]?) h1
    simp only [List.getElem?_map,Array.getElem?_toList,hfi,Option.map_some,List.getElem?_range hi,Option.some.injEq,Prod.mk.injEq] at e
    obtain⟨e1,e2,e3⟩:=e
    have hta:ts.getD i 0=a:=by rw [List.getD,ha];rfl
    have hh:=hall i _ hfi
    rw [e3,e2,e1,hta] at hh
    have hcs:(cs.drop i).take 1=[c]:=by
      have hlt:=(List.getElem?_eq_some_iff.1 hc)
      rw [List.drop_eq_getElem_cons hlt.1,hlt.2];rfl
    rw [hcs] at hh
    rw [List.getElem?_map] at hd
    cases hxi:xs[i]? with
    | none=>rw [hxi] at hd;cases hd
    | some y=>
      rw [hxi] at hd hh
      simp only [Option.map_some,Option.some.injEq] at hd
      subst hd
      exact⟨y.2,hh⟩
  · cases hf
theorem kD7 {ds:List (DataW H)} {i:Nat} {d:DataW H} (h:ds[i]?=some d):zK0 d≤zN6 ds:=by
  induction ds generalizing i with
  | nil=>simp at h
  | cons x r ih=>
    cases i with
    | zero=>simp at h;subst h;simp [zN6]
    | succ i=>simp at h;have:=ih h;simp only [zN6];omega
theorem gZ5 (ds:List (DataW H)):ds.length≤zN6 ds:=by
  induction ds with
  | nil=>simp [zN6]
  | cons x r ih=>have:=kQ0 x;simp only [zN6,List.length_cons];omega
theorem jB0 {α:Type} {f:α→Nat}:∀ {l:List α} {ds:List (DataW H)},l.length=ds.length→(∀ (j:Nat) x dd,l[j]?=some x→ds[j]?=some dd→f x≤zK0 dd)→(l.map f).sum≤zN6 ds
  | [],[],_,_=>by simp
  | x::r,d::s,hl,h=>by
    have h0:=h 0 x d rfl rfl
    have:=jB0 (f:=f) (l:=r) (ds:=s) (by simpa using hl) fun j y dd h1 h2=>h (j+1) y dd (by simpa using h1) (by simpa using h2)
    simp only [List.map_cons,List.sum_cons,zN6];omega
  | [],_::_,hl,_=>by simp at hl
  | _::_,[],hl,_=>by simp at hl
theorem zX3 {α:Type} {B:Nat} {t e:TypeId} {sz fuel:Nat} {v:Value} {d:DataW H} {ps:List MemPlace} (hs:zR6 P t e=true) (hc:P.cellsOf e=sz) (h0:0<sz) (h:Tr enc P w fuel t [v]=some (d,ps)) (hB:zK0 d≤B)
    (V:α→List Value→Prop) (f:α→Nat) (x0:α) (each:∀ n,n<fuel→∀ cs d ps,Tr enc P w n e cs=some (d,ps)→zK0 d≤B→∃ x,V x cs∧f x≤zK0 d) :
    ∃ (oa:Option Addr) (cap:Nat) (l:List α) (vs:Nat→List Value),v=.slice oa l.length cap∧RowC w (·<w.heap.size) sz oa l.length vs∧(∀ (j:Nat) x,l[j]?=some x→V x (vs j))∧(l.map f).sum≤zK0 d∧l.length≤zK0 d:=by
  obtain⟨oa,len,cap,n,elems,rest,rfl,hel,-,-,hn,hd,hrow⟩:=kZ8 (kD2 hs) hc h0 h
  rcases hrow with rfl|⟨b,off,rfl,hall⟩
  · exact⟨oa,cap,[],fun _=>[],rfl,.inl rfl,fun j x hx=>by simp at hx,by simp,by simp⟩
  rcases hd with ⟨-,rfl,-⟩|rfl
  · exact⟨_,cap,[],fun _=>[],rfl,.inl rfl,fun j x hx=>by simp at hx,by simp,by simp⟩
  have hbulk:zN6 elems+zN6 rest+1≤B:=by simpa [zK0] using hB
  obtain⟨l,hl,hP⟩:=gA3 (x0,([]:List Value)) len (fun j (y:α×List Value)=>V y.1 y.2∧y.2.length=sz∧(∃ dd,elems[j]?=some dd∧f y.1≤zK0 dd)∧∀ i u,y.2[i]?=some u→w.cell? ⟨b,off+j*sz+i,none⟩=some u) fun j hj=>by
    obtain⟨cs,pp,dd,h1,h2,h3,h4⟩:=hall j hj
    have hle:=kD7 h2
    obtain⟨x,hx,hfx⟩:=each n hn cs dd pp h3 (by omega)
    exact⟨(x,cs),hx,h1,⟨dd,h2,hfx⟩,h4⟩
  have hlm:(l.map (·.1)).length=len:=by simpa using hl
  have hget:∀ {j:Nat} {x:α},(l.map (·.1))[j]?=some x→j<len∧(l.getD j (x0,[])).1=x:=by
    intro j x hx
    rw [List.getElem?_map] at hx
    cases hj:l[j]? with
    | none=>rw [hj] at hx;cases hx
    | some y=>
      rw [hj] at hx
      simp only [Option.map_some,Option.some.injEq] at hx
      exact⟨by have:=(List.getElem?_eq_some_iff.1 hj).1;omega,by rw [List.getD,hj];exact hx⟩
  refine⟨some ⟨b,off,none⟩,cap,l.map (·.1),fun j=>(l.getD j (x0,[])).2,by rw [hlm],?_,fun j x hx=>?_,?_,?_⟩
  · rw [hlm]
    rcases Nat.eq_zero_or_pos len with hz|hz
    · exact .inl hz
    · refine .inr ⟨b,off,rfl,?_,?_,fun j hj=>⟨(hP j hj).2.1,(hP j hj).2.2.2⟩⟩ <;>
      · have h5:=(hP 0 hz).2.1
        have h6:=(hP 0 hz).2.2.2 0 ((l.getD 0 (x0,[])).2[0]'(by omega)) (by simp)
        exact World.block_lt_of_cell? w _ h6
  · obtain⟨hj,rfl⟩:=hget hx
    exact(hP j hj).1
  · have:=jB0 (f:=f) (l:=l.map (·.1)) (ds:=elems) (by omega) fun j x dd hx hdd=>by
      obtain⟨hj,rfl⟩:=hget hx
      obtain⟨dd',h1,h2⟩:=(hP j hj).2.2.1
      rw [hdd] at h1
      cases h1
      exact h2
    simp only [zK0];omega
  · have:=gZ5 elems
    rw [hlm];simp only [zK0];omega
theorem gW9 (l:List Ex):kA3 l=(l.map szE).sum:=by
  induction l with
  | nil=>simp [kA3]
  | cons x r ih=>simp [kA3,ih]
theorem gW1 (l:List Sm):gO3 l=(l.map szS).sum:=by
  induction l with
  | nil=>simp [gO3]
  | cons x r ih=>simp [gO3,ih]
theorem kW0 (l:List Dc):gV9 l=(l.map fun d=>d.nm.length+1).sum:=by
  induction l with
  | nil=>simp [gV9]
  | cons x r ih=>simp [gV9,ih]
theorem kY9 (l:List Th):jA8 l=(l.map fun t=>t.nm.length+gV9 t.locals+gO3 t.body+1).sum:=by
  induction l with
  | nil=>simp [jA8]
  | cons x r ih=>simp [jA8,ih]
theorem qH2 {n:Int} (h:(Lit.int .i64 n).wf=true):i64 n:=by
  simp only [Lit.wf,IntKind.min,IntKind.max,IntKind.signed,IntKind.bits] at h
  simp at h
  exact⟨by omega,by omega⟩
theorem gQ2 {n:Int} (h:(Lit.int .u8 n).wf=true):u8 n:=by
  simp only [Lit.wf,IntKind.min,IntKind.max,IntKind.signed,IntKind.bits] at h
  simp at h
  exact⟨by omega,by omega⟩
variable {I:TyIds}
theorem zX5 (h:gB7 P I=true):qJ P I.e [I.k1,I.op,I.wd,I.str,I.es,I.int]=true∧qJ P I.s [I.k2,I.str,I.str,I.es,I.ss,I.ss,I.int]=true∧qJ P I.d [I.str,I.wd,I.int]=true∧qJ P I.t [I.str,I.ds,I.ss,I.int]=true∧qJ P I.pg [I.ds,I.ds,I.ts]=true∧
    qD8 P I.k1 .u8=true∧qD8 P I.op .u8=true∧qD8 P I.wd .i64=true∧qD8 P I.int .i64=true∧qD8 P I.k2 .u8=true∧gT8 P I.str=true∧zR6 P I.es I.e=true∧zR6 P I.ss I.s=true∧zR6 P I.ds I.d=true∧zR6 P I.ts I.t=true:=by
  unfold gB7 at h
  simp only [Bool.and_eq_true] at h
  simp_all
theorem gI9 (s:ByteArray):Value.string s=str s.data.toList:=by cases s;rfl
theorem jE4 (hI:gB7 P I=true):∀ (fuel:Nat) (cs:List Value) (d:DataW H) (ps:List MemPlace),Tr enc P w fuel I.e cs=some (d,ps)→zK0 d≤1048576→∃ e,(ExV w (·<w.heap.size) e cs∧OkE e)∧szE e≤zK0 d:=by
  intro fuel
  refine Nat.strongRecOn fuel fun fuel ih=>?_
  intro cs d ps h hB
  obtain⟨fe,-,-,-,-,k1,op,wd,it,-,st,es,-⟩:=zX5 hI
  obtain⟨n,ds,rfl,rfl,hdl,hcl,hce,hall⟩:=zX1 fe h
  match cs,hcl,ds,hdl with
  | [c0,c1,c2,c3,c4,c5],_,[d0,d1,d2,d3,d4,d5],_=>
    obtain⟨_,h0⟩:=hall 0 _ _ _ rfl rfl rfl
    obtain⟨_,h1⟩:=hall 1 _ _ _ rfl rfl rfl
    obtain⟨_,h2⟩:=hall 2 _ _ _ rfl rfl rfl
    obtain⟨_,h3⟩:=hall 3 _ _ _ rfl rfl rfl
    obtain⟨_,h4⟩:=hall 4 _ _ _ rfl rfl rfl
    obtain⟨_,h5⟩:=hall 5 _ _ _ rfl rfl rfl
    obtain⟨a0,e0,x0,w0⟩:=DataW.trod_int (zV4 k1) h0
    obtain⟨a1,e1,x1,w1⟩:=DataW.trod_int (zV4 op) h1
    obtain⟨a2,e2,x2,w2⟩:=DataW.trod_int (zV4 wd) h2
    obtain⟨a3,e3,x3,w3⟩:=DataW.trod_string (qN st) h3
    obtain⟨a5,e5,x5,w5⟩:=DataW.trod_int (zV4 it) h5
    simp only [List.cons.injEq,and_true,Prod.mk.injEq] at e0 e1 e2 e3 e5 x0 x1 x2 x3 x5
    obtain⟨rfl,-⟩:=x0;obtain⟨rfl,-⟩:=x1;obtain⟨rfl,-⟩:=x2;obtain⟨rfl,-⟩:=x3;obtain⟨rfl,-⟩:=x5
    subst e0 e1 e2 e3 e5
    simp only [zK0,zN6] at hB
    obtain⟨oa,cap,l,vs,rfl,hrow,hV,hsum,hlen⟩:=zX3 (B:=1048576) es (show P.cellsOf I.e=6 from hce) (by omega) h4 (by omega) (fun e cs=>ExV w (·<w.heap.size) e cs∧OkE e) szE ex0 (fun m hm cs d ps ht hb=>ih m (by omega) cs d ps ht hb)
    refine⟨.mk a0 a1 a2 a3.data.toList l a5,⟨?_,?_⟩,?_⟩
    · rw [gI9 a3]
      exact .mk vs hrow fun j x hx=>(hV j x hx).1
    · exact .mk (gQ2 w0) (gQ2 w1) (qH2 w2) (qH2 w5) (by omega) fun j x hx=>(hV j x hx).2
    · simp only [szE,gW9,zK0,zN6];omega
theorem kW4 (hI:gB7 P I=true) {fuel:Nat} {v:Value} {d:DataW H} {ps:List MemPlace} (h:Tr enc P w fuel I.es [v]=some (d,ps)) (hB:zK0 d≤1048576) :
    ∃ (oa:Option Addr) (cap:Nat) (l:List Ex),v=.slice oa l.length cap∧ExRow w (·<w.heap.size) oa l∧gO2 l∧kA3 l≤zK0 d:=by
  obtain⟨fe,-,-,-,-,-,-,-,-,-,-,es,-⟩:=zX5 hI
  have hce:P.cellsOf I.e=6:=by
    have:=fe
    unfold qJ at this
    split at this
    · simp only [Bool.and_eq_true,decide_eq_true_eq] at this;exact this.2
    · cases this
  obtain⟨oa,cap,l,vs,rfl,hrow,hV,hsum,hlen⟩:=zX3 (B:=1048576) es hce (by omega) h hB (fun e cs=>ExV w (·<w.heap.size) e cs∧OkE e) szE ex0 (fun m hm cs d ps ht hb=>jE4 hI m cs d ps ht hb)
  exact⟨oa,cap,l,rfl,⟨vs,hrow,fun j x hx=>(hV j x hx).1⟩,⟨by omega,fun j x hx=>(hV j x hx).2⟩,by rw [gW9];exact hsum⟩
theorem qR {t:TypeId} {ts:List TypeId} (h:qJ P t ts=true):P.cellsOf t=ts.length:=by
  unfold qJ at h
  split at h
  · simp only [Bool.and_eq_true,decide_eq_true_eq] at h;exact h.2
  · cases h
theorem jG6 (hI:gB7 P I=true):∀ (fuel:Nat) (cs:List Value) (d:DataW H) (ps:List MemPlace),Tr enc P w fuel I.s cs=some (d,ps)→zK0 d≤1048576→∃ s,(SmV w (·<w.heap.size) s cs∧OkS s)∧szS s≤zK0 d:=by
  intro fuel
  refine Nat.strongRecOn fuel fun fuel ih=>?_
  intro cs d ps h hB
  obtain⟨-,fs,-,-,-,-,-,-,it,k2,st,-,ss,-⟩:=zX5 hI
  obtain⟨n,ds,rfl,rfl,hdl,hcl,hce,hall⟩:=zX1 fs h
  match cs,hcl,ds,hdl with
  | [c0,c1,c2,c3,c4,c5,c6],_,[d0,d1,d2,d3,d4,d5,d6],_=>
    obtain⟨_,h0⟩:=hall 0 _ _ _ rfl rfl rfl
    obtain⟨_,h1⟩:=hall 1 _ _ _ rfl rfl rfl
    obtain⟨_,h2⟩:=hall 2 _ _ _ rfl rfl rfl
    obtain⟨_,h3⟩:=hall 3 _ _ _ rfl rfl rfl
    obtain⟨_,h4⟩:=hall 4 _ _ _ rfl rfl rfl
    obtain⟨_,h5⟩:=hall 5 _ _ _ rfl rfl rfl
    obtain⟨_,h6⟩:=hall 6 _ _ _ rfl rfl rfl
    obtain⟨a0,e0,x0,w0⟩:=DataW.trod_int (zV4 k2) h0
    obtain⟨a1,e1,x1,w1⟩:=DataW.trod_string (qN st) h1
    obtain⟨a2,e2,x2,w2⟩:=DataW.trod_string (qN st) h2
    obtain⟨a6,e6,x6,w6⟩:=DataW.trod_int (zV4 it) h6
    simp only [List.cons.injEq,and_true,Prod.mk.injEq] at e0 e1 e2 e6 x0 x1 x2 x6
    obtain⟨rfl,-⟩:=x0;obtain⟨rfl,-⟩:=x1;obtain⟨rfl,-⟩:=x2;obtain⟨rfl,-⟩:=x6
    subst e0 e1 e2 e6
    simp only [zK0,zN6] at hB
    obtain⟨oe,ce,le,rfl,hre,hoke,hse⟩:=kW4 hI h3 (by omega)
    obtain⟨ob,cb,lb,vb,rfl,hrowb,hVb,hsumb,hlenb⟩:=zX3 (B:=1048576) ss (show P.cellsOf I.s=7 from hce) (by omega) h4 (by omega) (fun e cs=>SmV w (·<w.heap.size) e cs∧OkS e) szS sm0 (fun m hm cs d ps ht hb=>ih m (by omega) cs d ps ht hb)
    obtain⟨ol,cl,ll,vl,rfl,hrowl,hVl,hsuml,hlenl⟩:=zX3 (B:=1048576) ss (show P.cellsOf I.s=7 from hce) (by omega) h5 (by omega) (fun e cs=>SmV w (·<w.heap.size) e cs∧OkS e) szS sm0 (fun m hm cs d ps ht hb=>ih m (by omega) cs d ps ht hb)
    refine⟨.mk a0 a1.data.toList a2.data.toList le lb ll a6,⟨?_,?_⟩,?_⟩
    · rw [gI9 a1,gI9 a2]
      exact .mk vb vl hre hrowb (fun j x hx=>(hVb j x hx).1) hrowl (fun j x hx=>(hVl j x hx).1)
    · exact .mk (gQ2 w0) (qH2 w6) hoke (by omega) (fun j x hx=>(hVb j x hx).2) (by omega) (fun j x hx=>(hVl j x hx).2)
    · simp only [szS,gW1,zK0,zN6];omega
theorem kU (hI:gB7 P I=true) {fuel:Nat} {v:Value} {d:DataW H} {ps:List MemPlace} (h:Tr enc P w fuel I.ss [v]=some (d,ps)) (hB:zK0 d≤1048576) :
    ∃ (oa:Option Addr) (cap:Nat) (l:List Sm),v=.slice oa l.length cap∧SmRow w (·<w.heap.size) oa l∧qO l∧gO3 l≤zK0 d:=by
  obtain⟨-,fs,-,-,-,-,-,-,-,-,-,-,ss,-⟩:=zX5 hI
  obtain⟨oa,cap,l,vs,rfl,hrow,hV,hsum,hlen⟩:=zX3 (B:=1048576) ss (show P.cellsOf I.s=7 from qR fs) (by omega) h hB (fun e cs=>SmV w (·<w.heap.size) e cs∧OkS e) szS sm0 (fun m hm cs d ps ht hb=>jG6 hI m cs d ps ht hb)
  exact⟨oa,cap,l,rfl,⟨vs,hrow,fun j x hx=>(hV j x hx).1⟩,⟨by omega,fun j x hx=>(hV j x hx).2⟩,by rw [gW1];exact hsum⟩
theorem gT (hI:gB7 P I=true) {fuel:Nat} {v:Value} {d:DataW H} {ps:List MemPlace} (h:Tr enc P w fuel I.ds [v]=some (d,ps)) (hB:zK0 d≤1048576) :
    ∃ (oa:Option Addr) (cap:Nat) (l:List Dc),v=.slice oa l.length cap∧DcRow w (·<w.heap.size) oa l∧OkD l∧gV9 l≤zK0 d:=by
  obtain⟨-,-,fd,-,-,-,-,wd,it,-,st,-,-,dds,-⟩:=zX5 hI
  obtain⟨oa,cap,l,vs,rfl,hrow,hV,hsum,hlen⟩:=zX3 (B:=1048576) dds (show P.cellsOf I.d=3 from qR fd) (by omega) h hB (fun (x:Dc) cs=>cs=dcL x∧i64 x.wd∧i64 x.a) (fun x=>x.nm.length+1) dc0 (fun m hm cs d ps ht hb=>by
    obtain⟨n,ds,rfl,rfl,hdl,hcl,hce,hall⟩:=zX1 fd ht
    match cs,hcl,ds,hdl with
    | [c0,c1,c2],_,[d0,d1,d2],_=>
      obtain⟨_,h0⟩:=hall 0 _ _ _ rfl rfl rfl
      obtain⟨_,h1⟩:=hall 1 _ _ _ rfl rfl rfl
      obtain⟨_,h2⟩:=hall 2 _ _ _ rfl rfl rfl
      obtain⟨a0,e0,x0,w0⟩:=DataW.trod_string (qN st) h0
      obtain⟨a1,e1,x1,w1⟩:=DataW.trod_int (zV4 wd) h1
      obtain⟨a2,e2,x2,w2⟩:=DataW.trod_int (zV4 it) h2
      simp only [List.cons.injEq,and_true,Prod.mk.injEq] at e0 e1 e2 x0 x1 x2
      obtain⟨rfl,-⟩:=x0;obtain⟨rfl,-⟩:=x1;obtain⟨rfl,-⟩:=x2
      subst e0 e1 e2
      exact⟨⟨a0.data.toList,a1,a2⟩,⟨by rw [gI9 a0];rfl,qH2 w1,qH2 w2⟩,by simp only [zK0,zN6];omega⟩)
  refine⟨oa,cap,l,rfl,?_,⟨by omega,fun j x hx=>(hV j x hx).2⟩,by rw [kW0];exact hsum⟩
  refine hrow.imp id fun ⟨b,off,e,hb,hl,hc⟩=>⟨b,off,e,hb,hl,fun j hj=>?_⟩
  have hx:=List.getElem?_eq_getElem hj
  have:=hc j hj
  rw [(hV j _ hx).1] at this
  simpa only [List.getD,hx,Option.getD_some] using this
theorem jF0 (hI:gB7 P I=true) {fuel:Nat} {v:Value} {d:DataW H} {ps:List MemPlace} (h:Tr enc P w fuel I.ts [v]=some (d,ps)) (hB:zK0 d≤1048576) :
    ∃ (oa:Option Addr) (cap:Nat) (l:List Th),v=.slice oa l.length cap∧ThRow w (·<w.heap.size) oa l∧OkT l∧jA8 l≤zK0 d:=by
  obtain⟨-,-,-,ft,-,-,-,-,it,-,st,-,-,-,tts⟩:=zX5 hI
  obtain⟨oa,cap,l,vs,rfl,hrow,hV,hsum,hlen⟩:=zX3 (B:=1048576) tts (show P.cellsOf I.t=4 from qR ft) (by omega) h hB (fun (x:Th) cs=>ThV w (·<w.heap.size) x cs∧OkD x.locals∧qO x.body∧i64 x.a) (fun t=>t.nm.length+gV9 t.locals+gO3 t.body+1) th0 (fun m hm cs d ps ht hb=>by
    obtain⟨n,ds,rfl,rfl,hdl,hcl,hce,hall⟩:=zX1 ft ht
    match cs,hcl,ds,hdl with
    | [c0,c1,c2,c3],_,[d0,d1,d2,d3],_=>
      obtain⟨_,h0⟩:=hall 0 _ _ _ rfl rfl rfl
      obtain⟨_,h1⟩:=hall 1 _ _ _ rfl rfl rfl
      obtain⟨_,h2⟩:=hall 2 _ _ _ rfl rfl rfl
      obtain⟨_,h3⟩:=hall 3 _ _ _ rfl rfl rfl
      obtain⟨a0,e0,x0,w0⟩:=DataW.trod_string (qN st) h0
      obtain⟨a3,e3,x3,w3⟩:=DataW.trod_int (zV4 it) h3
      simp only [List.cons.injEq,and_true,Prod.mk.injEq] at e0 e3 x0 x3
      obtain⟨rfl,-⟩:=x0;obtain⟨rfl,-⟩:=x3
      subst e0 e3
      simp only [zK0,zN6] at hb
      obtain⟨ol,cl,ll,rfl,q1,q2,q3⟩:=gT hI h1 (by omega)
      obtain⟨ob,cb,lb,rfl,r1,r2,r3⟩:=kU hI h2 (by omega)
      exact⟨⟨a0.data.toList,ll,lb,a3⟩,⟨⟨ol,cl,ob,cb,by rw [gI9 a0],q1,r1⟩,q2,r2,qH2 w3⟩,by simp only [zK0,zN6];omega⟩)
  exact⟨oa,cap,l,rfl,⟨vs,hrow,fun j x hx=>(hV j x hx).1⟩,⟨by omega,fun j x hx=>(hV j x hx).2⟩,by rw [kY9];exact hsum⟩
theorem jF6 (hI:gB7 P I=true) {r:Reach} {b0:Nat} {v:Value} {d:DataW H} {ps:List MemPlace} (hval:Value.okWide P w r b0 I.pg v) (h:DataW.Trod enc P w 0 (fun _=>true) true I.pg v d ps) (hB:zK0 d≤1048576) :
    ∃ (p:Pg) (os ol ot:Option Addr) (cs cl ct:Nat),v=.agg [.slice os p.shared.length cs,.slice ol p.locks.length cl,.slice ot p.threads.length ct].toArray∧DcRow w (·<w.heap.size) os p.shared∧DcRow w (·<w.heap.size) ol p.locks∧ThRow w (·<w.heap.size) ot p.threads∧OkP p∧szP p≤zK0 d:=by
  obtain⟨-,-,-,-,fp,-,-,-,-,-,-,-,-,-,-⟩:=zX5 hI
  obtain⟨fuel,h⟩:=h
  obtain⟨n,ds,rfl,rfl,hdl,hcl,hce,hall⟩:=zX1 fp h
  have hagg:∃ cs,v=.agg cs:=by
    unfold qJ at fp
    split at fp
    · rename_i fs ht
      simp only [Value.okWide,ht] at hval
      obtain⟨cs,rfl,-⟩:=hval
      exact⟨cs,rfl⟩
    · cases fp
  obtain⟨⟨cs⟩,rfl⟩:=hagg
  simp only [Value.cells] at hcl hall
  match cs,hcl,ds,hdl with
  | [c0,c1,c2],_,[d0,d1,d2],_=>
    obtain⟨_,h0⟩:=hall 0 _ _ _ rfl rfl rfl
    obtain⟨_,h1⟩:=hall 1 _ _ _ rfl rfl rfl
    obtain⟨_,h2⟩:=hall 2 _ _ _ rfl rfl rfl
    simp only [zK0,zN6] at hB
    obtain⟨os,cs,ls,rfl,q1,q2,q3⟩:=gT hI h0 (by omega)
    obtain⟨ol,cl,ll,rfl,r1,r2,r3⟩:=gT hI h1 (by omega)
    obtain⟨ot,ct,lt,rfl,s1,s2,s3⟩:=jF0 hI h2 (by omega)
    exact⟨⟨ls,ll,lt⟩,os,ol,ot,cs,cl,ct,rfl,q1,r1,s1,⟨q2,r2,s2⟩,by simp only [szP,zK0,zN6];omega⟩
end
end Sx
/- The engine,sixteenth part: arrays that are values;arrays in memory;the neg of a number. -/
namespace Sx
open Go Go.RowKit
section
variable {w0 w w':World} {M:List Nat} {hs:List Res}
variable {P:Program} {n:Fr} {L:List Oper} {Q:Exit→Act→World→Prop} {kn:Kn} {N:Act→World→Prop}
variable {d ty:Nat} {pos:String} {aft:Array Edge} {g:Option (Nat×Bool)}
theorem jM3 {T:Nat} {x:Operand} {k:IntKind} {p r:Int} (hx:evO kn x=some (.int k p)) (hr:k.wrap (0 - p)=r):Y P n kn w ⟨some d,.unOp .neg T x,ty,pos,aft,g⟩ (.int k r):=fun a ha=>by
  subst hr
  simp only [execOp,ha.ev hx]
  simp [Op.unary,Op.intArith,go_sem]
theorem qM {T off:Nat} {cs:List Value} {v:Value} (ha:∀ w,(Go.isAgg T).run P w=.ok false w) (hv:nth cs off=some v):(part T cs.toArray off).run P w=.ok v w:=by
  rw [zL8] at hv
  unfold part
  simp [ha,hv]
theorem kM9 {T off sz:Nat} {cs vs:List Value} (ha:∀ w,(Go.isAgg T).run P w=.ok true w) (hs:∀ w,(Go.sizeOf T).run P w=.ok sz w) (hv:gH5 sz (gM0 cs off)=some vs):(part T cs.toArray off).run P w=.ok (.agg vs.toArray) w:=by
  obtain⟨h1,h2⟩:=gD0 hv
  rw [gT6] at h1
  unfold part
  simp [ha,hs,h1]
theorem gK2 {T i off:Nat} {x:Operand} {cs:List Value} {fs:Array Field} {f:Field} {v:Value} (hx:evO kn x=some (.agg cs.toArray)) (ht:P.underlying T=some (.struct fs)) (hf:nth fs.toList i=some f) (ho:f.offset=off)
    (ha:∀ w,(Go.isAgg f.type).run P w=.ok false w) (hv:nth cs off=some v):Y P n kn w ⟨some d,.field T x i,ty,pos,aft,g⟩ v:=fun a hk=>by
  subst ho
  rw [zL8] at hf
  have hf':fs[i]?=some f:=by simpa using hf
  simp only [execOp,hk.ev hx]
  simp [Instr.field,run_underlying ht,hf',asAgg,qM ha hv]
theorem jI9 {T E i sz len b off:Nat} {x lo:Operand} {ik:IntKind} {ii:Int} (hx:evO kn x=some (.pointer (some ⟨b,off,none⟩))) (hlo:evO kn lo=some (.int ik ii)) (ht:P.underlying T=some (.array len E))
    (hs:∀ w,(Go.sizeOf E).run P w=.ok sz w) (hi:ii=(i:Int)) (hlt:i<len):Y P n kn w ⟨some d,.slice T x (some lo) none none,ty,pos,aft,g⟩ (.slice (some ⟨b,off+i*sz,none⟩) (len - i) (len - i)):=fun a hk=>by
  subst hi
  have h1:i≤len:=by omega
  have h2:¬ len=i:=by omega
  simp only [execOp,Option.map_some,Option.map_none,hk.ev hx,hk.ev hlo]
  simp [Instr.sliceAt,Instr.sliceBounds,Instr.sliceBound,asIntOf,run_underlying ht,Instr.sureAddr,h1,h2,hs,zP4]
theorem jK5 (st:St w0 M hs w) (i:Nat) {x y:Operand} {T b off E:Nat} {l l':List Value} {v:Value} (hw:gd L kn g=some true) (hx:evO kn x=some (.pointer (some ⟨b,off,none⟩)))
    (hy:evO kn y=some v) (h1:v.oneCell'=true) (hsz:∀ w,(Go.sizeOf T).run P w=.ok 1 w)
    (hi:nth hs i=some (.blk b (.cells l.toArray E (0,0)))) (hlt:off<l.length) (hl:l.set off v=l') (hm:b∈M∨w0.heap.size≤b)
    (next:∀ w',St w0 M (zA0 hs i (.blk b (.cells l'.toArray E (0,0)))) w'→vN n N kn w'):vS P n L Q (⟨none,.store T x y,ty,pos,aft,g⟩) N kn w:=by
  refine e_st st i hw hx hy h1 hsz hi (by simpa [Nat.blt_eq] using hlt) hm (fun w' st'=>next w' ?_)
  rw [qN3 l off v,hl] at st'
  exact st'
end
end Sx
/- Short names for the engine's most frequent steps: what is 'rfl' at every use is filled in. -/
namespace Sx
open Go Go.RowKit
theorem St.dr {w0:World} {M:List Nat} {hs hs':List Res} {w:World} (st:St w0 M hs w) (h:hs'.Sublist hs:=by repeat (first|exact sl0|apply sl1|apply sl2)):St w0 M hs' w:=st.drop h
section
variable {P:Program} {n:Fr} {L:List Oper} {Q:Exit→Act→World→Prop} {kn:Kn} {w w0:World} {M:List Nat} {hs:List Res} {rest:List Oper}
variable {d ty:Nat} {pos:String} {aft:Array Edge} {g:Option (Nat×Bool)} {N:Act→World→Prop}
theorem ym {x:Operand} {v:Value} (next:vcL P n L Q rest (put (some d) v kn) w) (hw:gd L kn g=some true:=by exact rfl) (hd:zI7 n (some d)=true:=by exact rfl) (hx:evO kn x=some v:=by exact rfl):vcL P n L Q (⟨some d,.move x,ty,pos,aft,g⟩::rest) kn w:=kT9 hw hd (jI3 hx) next
theorem ya {x:Operand} {v:Value} (next:vcL P n L Q rest (put (some d) v kn) w) (hw:gd L kn g=some true:=by exact rfl) (hd:zI7 n (some d)=true:=by exact rfl) (hx:evO kn x=some v:=by exact rfl):vcL P n L Q (⟨some d,.assign x,ty,pos,aft,g⟩::rest) kn w:=kT9 hw hd (qL1 hx) next
theorem ypt {c x y:Operand} {v:Value} (next:vcL P n L Q rest (put (some d) v kn) w) (hw:gd L kn g=some true:=by exact rfl) (hd:zI7 n (some d)=true:=by exact rfl) (hc:evO kn c=some (.bool true):=by exact rfl) (hx:evO kn x=some v:=by exact rfl):vcL P n L Q (⟨some d,.pick c x y,ty,pos,aft,g⟩::rest) kn w:=kT9 hw hd (zJ0 hc hx) next
theorem ypf {c x y:Operand} {v:Value} (next:vcL P n L Q rest (put (some d) v kn) w) (hw:gd L kn g=some true:=by exact rfl) (hd:zI7 n (some d)=true:=by exact rfl) (hc:evO kn c=some (.bool false):=by exact rfl) (hx:evO kn y=some v:=by exact rfl):vcL P n L Q (⟨some d,.pick c x y,ty,pos,aft,g⟩::rest) kn w:=kT9 hw hd (zN hc hx) next
theorem ynk {x:Operand} {p:Addr} (next:vcL P n L Q rest (put (some d) (.pointer (some p)) kn) w) (hw:gd L kn g=some true:=by exact rfl) (hd:zI7 n (some d)=true:=by exact rfl) (hx:evO kn x=some (.pointer (some p)):=by exact rfl):vcL P n L Q (⟨some d,.nilCheck x,ty,pos,aft,g⟩::rest) kn w:=kT9 hw hd (qF8 hx) next
theorem yfz (k:Nat) {x:Operand} {T i b s:Nat} {fs:Array Field} {f:Field} {F:Nat} (ht:P.underlying T=some (.struct fs)) (hs:∀ w,(Go.sizeOf F).run P w=.ok s w)
    (next:vcL P n L Q rest (put (some d) (.pointer (some ⟨b,k,none⟩)) kn) w) (hw:gd L kn g=some true:=by exact rfl) (hd:zI7 n (some d)=true:=by exact rfl) (hx:evO kn x=some (.pointer (some ⟨b,0,none⟩)):=by exact rfl)
    (hf:nth fs.toList i=some f:=by exact rfl) (hF:f.type=F:=by exact rfl) (hk:f.offset=k:=by exact rfl) (h0:Nat.blt 0 s=true:=by exact rfl):vcL P n L Q (⟨some d,.fieldAddr T x i,ty,pos,aft,g⟩::rest) kn w:=kT9 hw hd (zV8 hx ht hf hk (fun w=>by rw [hF];exact hs w) h0) next
theorem yl (st:St w0 M hs w) (i:Nat) {x:Operand} {T b off E:Nat} {l:List Value} {fz:Nat×Nat} {v:Value} (ha:∀ w,(Go.isAgg T).run P w=.ok false w) (next:vcL P n L Q rest (put (some d) v kn) w)
    (hw:gd L kn g=some true:=by exact rfl) (hd:zI7 n (some d)=true:=by exact rfl) (hx:evO kn x=some (.pointer (some ⟨b,off,none⟩)):=by exact rfl) (hi:nth hs i=some (.blk b (.cells l.toArray E fz)):=by exact rfl) (hv:nth l off=some v:=by exact rfl) :
    vcL P n L Q (⟨some d,.load T x,ty,pos,aft,g⟩::rest) kn w:=kT9 hw hd (qE6 st i hx ha hi hv) next
theorem yla (st:St w0 M hs w) (i:Nat) (vs:List Value) {x:Operand} {T b off E sz:Nat} {l:List Value} {fz:Nat×Nat} (ha:∀ w,(Go.isAgg T).run P w=.ok true w) (hsz:∀ w,(Go.sizeOf T).run P w=.ok sz w) (next:vcL P n L Q rest (put (some d) (.agg vs.toArray) kn) w)
    (hw:gd L kn g=some true:=by exact rfl) (hd:zI7 n (some d)=true:=by exact rfl) (hx:evO kn x=some (.pointer (some ⟨b,off,none⟩)):=by exact rfl) (hi:nth hs i=some (.blk b (.cells l.toArray E fz)):=by exact rfl) (hv:gH5 sz (gM0 l off)=some vs:=by exact rfl) :
    vcL P n L Q (⟨some d,.load T x,ty,pos,aft,g⟩::rest) kn w:=kT9 hw hd (zS7 st i hx ha hsz hi hv) next
theorem vy {o:Oper} {v:Value} (y:Y P n kn w o v) (next:vcL P n L Q rest (put o.dst v kn) w) (hw:gd L kn o.guard=some true:=by exact rfl) (hd:zI7 n o.dst=true:=by exact rfl):vcL P n L Q (o::rest) kn w:=kT9 hw hd y next
theorem vsk {o:Oper} (next:vcL P n L Q rest (put o.dst undef kn) w) (hw:gd L kn o.guard=some false:=by exact rfl) (hd:zI7 n o.dst=true:=by exact rfl):vcL P n L Q (o::rest) kn w:=zA3 (zO6 hw hd next)
theorem vmb {x:Operand} {b:Bool} (h1:b=true→vcL P n L Q rest ((d,.bool true)::kn) w) (h2:b=false→vcL P n L Q rest ((d,.bool false)::kn) w) (hw:gd L kn g=some true:=by exact rfl) (hd:zI7 n (some d)=true:=by exact rfl) (hx:evO kn x=some (.bool b):=by exact rfl) :
    vcL P n L Q (⟨some d,.move x,ty,pos,aft,g⟩::rest) kn w:=zA3 (e_mvb hw hd hx h1 h2)
theorem est (st:St w0 M hs w) (i:Nat) {x y:Operand} {T b off E:Nat} {l:List Value} {v:Value} (hsz:∀ w,(Go.sizeOf T).run P w=.ok 1 w) (next:∀ w',St w0 M (zA0 hs i (.blk b (.cells (zA0 l off v).toArray E (0,0)))) w'→vN n N kn w')
    (hw:gd L kn g=some true:=by exact rfl) (hx:evO kn x=some (.pointer (some ⟨b,off,none⟩)):=by exact rfl) (hy:evO kn y=some v:=by exact rfl) (h1:v.oneCell'=true:=by exact rfl) (hi:nth hs i=some (.blk b (.cells l.toArray E (0,0))):=by exact rfl)
    (hlt:Nat.blt off l.length=true:=by exact rfl) (hm:b∈M∨w0.heap.size≤b:=by first|(right;assumption)|(left;simp)):vS P n L Q (⟨none,.store T x y,ty,pos,aft,g⟩) N kn w:=e_st st i hw hx hy h1 hsz hi hlt hm next
theorem zC4 (st:St w0 M hs w) (i:Nat) (vs:List Value) {x y:Operand} {T b off E:Nat} {l:List Value} {v:Value} (hsz:∀ w,(Go.sizeOf T).run P w=.ok vs.length w) (next:∀ w',St w0 M (zA0 hs i (.blk b (.cells (wr l off vs).toArray E (0,0)))) w'→vN n N kn w')
    (hw:gd L kn g=some true:=by exact rfl) (hx:evO kn x=some (.pointer (some ⟨b,off,none⟩)):=by exact rfl) (hy:evO kn y=some v:=by exact rfl) (hv:v.cells.toList=vs:=by exact rfl) (h1:qR4 vs=true:=by exact rfl) (hi:nth hs i=some (.blk b (.cells l.toArray E (0,0))):=by exact rfl)
    (hlt:Nat.ble (off+vs.length) l.length=true:=by exact rfl) (hm:b∈M∨w0.heap.size≤b:=by first|(right;assumption)|(left;simp)):vS P n L Q (⟨none,.store T x y,ty,pos,aft,g⟩) N kn w:=jI8 st i hw hx hy hv h1 hsz hi hlt hm next
variable {S:World→Prop} {r:List (Nat×Bool)} {rd:Pl}
theorem pm (hS:S w) {i:Nat} {x:Operand} {v:Value} (next:vP P n L Q S r (put (some d) v kn) w) (hi:nth L i=some ⟨some d,.move x,ty,pos,aft,g⟩:=by exact rfl) (hw:gd L kn g=some true:=by exact rfl) (hd:zI7 n (some d)=true:=by exact rfl)
    (hx:evO kn x=some v:=by exact rfl):vP P n L Q S ((i,true)::r) kn w:=zA2 hi hw hd hS (fun _ _=>jI3 hx) next
theorem pnk (hS:S w) {i:Nat} {x:Operand} {p:Addr} (next:vP P n L Q S r (put (some d) (.pointer (some p)) kn) w) (hi:nth L i=some ⟨some d,.nilCheck x,ty,pos,aft,g⟩:=by exact rfl) (hw:gd L kn g=some true:=by exact rfl) (hd:zI7 n (some d)=true:=by exact rfl)
    (hx:evO kn x=some (.pointer (some p)):=by exact rfl):vP P n L Q S ((i,true)::r) kn w:=zA2 hi hw hd hS (fun _ _=>qF8 hx) next
theorem pld (hS:S w) (j:Nat) {i:Nat} {x:Operand} {T b off E:Nat} {l:List Value} {fz:Nat×Nat} {v:Value} (ha:∀ w,(Go.isAgg T).run P w=.ok false w) (next:vP P n L Q S r (put (some d) v kn) w)
    (hst:∀ w',S w'→St w0 M hs w':=by exact fun _ h=>h) (hi:nth L i=some ⟨some d,.load T x,ty,pos,aft,g⟩:=by exact rfl) (hw:gd L kn g=some true:=by exact rfl) (hd:zI7 n (some d)=true:=by exact rfl)
    (hx:evO kn x=some (.pointer (some ⟨b,off,none⟩)):=by exact rfl) (hb:nth hs j=some (.blk b (.cells l.toArray E fz)):=by exact rfl) (hv:nth l off=some v:=by exact rfl):vP P n L Q S ((i,true)::r) kn w:=zA2 hi hw hd hS (fun w st=>qE6 (hst w st) j hx ha hb hv) next
theorem pfz (hS:S w) (k:Nat) {i:Nat} {x:Operand} {T q b s:Nat} {fs:Array Field} {f:Field} {F:Nat} (ht:P.underlying T=some (.struct fs)) (hs:∀ w,(Go.sizeOf F).run P w=.ok s w) (next:vP P n L Q S r (put (some d) (.pointer (some ⟨b,k,none⟩)) kn) w)
    (hi:nth L i=some ⟨some d,.fieldAddr T x q,ty,pos,aft,g⟩:=by exact rfl) (hw:gd L kn g=some true:=by exact rfl) (hd:zI7 n (some d)=true:=by exact rfl) (hx:evO kn x=some (.pointer (some ⟨b,0,none⟩)):=by exact rfl)
    (hf:nth fs.toList q=some f:=by exact rfl) (hF:f.type=F:=by exact rfl) (hk:f.offset=k:=by exact rfl) (h0:Nat.blt 0 s=true:=by exact rfl):vP P n L Q S ((i,true)::r) kn w:=zA2 hi hw hd hS (fun _ _=>zV8 hx ht hf hk (fun w=>by rw [hF];exact hs w) h0) next
theorem pf0 (hS:S w) {i:Nat} {x:Operand} {T q b off s:Nat} {fs:Array Field} {f:Field} {F:Nat} (ht:P.underlying T=some (.struct fs)) (hs:∀ w,(Go.sizeOf F).run P w=.ok s w) (next:vP P n L Q S r (put (some d) (.pointer (some ⟨b,off,none⟩)) kn) w)
    (hi:nth L i=some ⟨some d,.fieldAddr T x q,ty,pos,aft,g⟩:=by exact rfl) (hw:gd L kn g=some true:=by exact rfl) (hd:zI7 n (some d)=true:=by exact rfl) (hx:evO kn x=some (.pointer (some ⟨b,off,none⟩)):=by exact rfl)
    (hf:nth fs.toList q=some f:=by exact rfl) (hF:f.type=F:=by exact rfl) (hk:f.offset=0:=by exact rfl) (h0:Nat.blt 0 s=true:=by exact rfl):vP P n L Q S ((i,true)::r) kn w:=zA2 hi hw hd hS (fun _ _=>zC3 hx ht hf hk (fun w=>by rw [hF];exact hs w) h0) next
theorem dm (hS:S w) {i:Nat} {x:Operand} {v:Value} (next:vD P n L Q S rd (put (some d) v kn) w) (hi:nth L i=some ⟨some d,.move x,ty,pos,aft,g⟩:=by exact rfl) (hw:gd L kn g=some true:=by exact rfl) (hd:zI7 n (some d)=true:=by exact rfl)
    (hx:evO kn x=some v:=by exact rfl):vD P n L Q S (.take i rd) kn w:=zD9 hi hw hd hS (fun _ _=>jI3 hx) next
theorem dnk (hS:S w) {i:Nat} {x:Operand} {p:Addr} (next:vD P n L Q S rd (put (some d) (.pointer (some p)) kn) w) (hi:nth L i=some ⟨some d,.nilCheck x,ty,pos,aft,g⟩:=by exact rfl) (hw:gd L kn g=some true:=by exact rfl) (hd:zI7 n (some d)=true:=by exact rfl)
    (hx:evO kn x=some (.pointer (some p)):=by exact rfl):vD P n L Q S (.take i rd) kn w:=zD9 hi hw hd hS (fun _ _=>qF8 hx) next
theorem dld (hS:S w) (j:Nat) {i:Nat} {x:Operand} {T b off E:Nat} {l:List Value} {fz:Nat×Nat} {v:Value} (ha:∀ w,(Go.isAgg T).run P w=.ok false w) (next:vD P n L Q S rd (put (some d) v kn) w)
    (hst:∀ w',S w'→St w0 M hs w':=by exact fun _ h=>h) (hi:nth L i=some ⟨some d,.load T x,ty,pos,aft,g⟩:=by exact rfl) (hw:gd L kn g=some true:=by exact rfl) (hd:zI7 n (some d)=true:=by exact rfl)
    (hx:evO kn x=some (.pointer (some ⟨b,off,none⟩)):=by exact rfl) (hb:nth hs j=some (.blk b (.cells l.toArray E fz)):=by exact rfl) (hv:nth l off=some v:=by exact rfl):vD P n L Q S (.take i rd) kn w:=zD9 hi hw hd hS (fun w st=>qE6 (hst w st) j hx ha hb hv) next
theorem dfz (hS:S w) (k:Nat) {i:Nat} {x:Operand} {T q b s:Nat} {fs:Array Field} {f:Field} {F:Nat} (ht:P.underlying T=some (.struct fs)) (hs:∀ w,(Go.sizeOf F).run P w=.ok s w) (next:vD P n L Q S rd (put (some d) (.pointer (some ⟨b,k,none⟩)) kn) w)
    (hi:nth L i=some ⟨some d,.fieldAddr T x q,ty,pos,aft,g⟩:=by exact rfl) (hw:gd L kn g=some true:=by exact rfl) (hd:zI7 n (some d)=true:=by exact rfl) (hx:evO kn x=some (.pointer (some ⟨b,0,none⟩)):=by exact rfl)
    (hf:nth fs.toList q=some f:=by exact rfl) (hF:f.type=F:=by exact rfl) (hk:f.offset=k:=by exact rfl) (h0:Nat.blt 0 s=true:=by exact rfl):vD P n L Q S (.take i rd) kn w:=zD9 hi hw hd hS (fun _ _=>zV8 hx ht hf hk (fun w=>by rw [hF];exact hs w) h0) next
theorem df0 (hS:S w) {i:Nat} {x:Operand} {T q b off s:Nat} {fs:Array Field} {f:Field} {F:Nat} (ht:P.underlying T=some (.struct fs)) (hs:∀ w,(Go.sizeOf F).run P w=.ok s w) (next:vD P n L Q S rd (put (some d) (.pointer (some ⟨b,off,none⟩)) kn) w)
    (hi:nth L i=some ⟨some d,.fieldAddr T x q,ty,pos,aft,g⟩:=by exact rfl) (hw:gd L kn g=some true:=by exact rfl) (hd:zI7 n (some d)=true:=by exact rfl) (hx:evO kn x=some (.pointer (some ⟨b,off,none⟩)):=by exact rfl)
    (hf:nth fs.toList q=some f:=by exact rfl) (hF:f.type=F:=by exact rfl) (hk:f.offset=0:=by exact rfl) (h0:Nat.blt 0 s=true:=by exact rfl):vD P n L Q S (.take i rd) kn w:=zD9 hi hw hd hS (fun _ _=>zC3 hx ht hf hk (fun w=>by rw [hF];exact hs w) h0) next
theorem vk1 {c:Code} (a0:Nat) {v0:Value} (h:vcC P n c Q [(a0,v0)] w) (h0:find kn a0=some v0:=by exact rfl):vcC P n c Q kn w:=zR0 [(a0,v0)] ⟨h0,trivial⟩ h
theorem vk2 {c:Code} (a0 a1:Nat) {v0 v1:Value} (h:vcC P n c Q [(a0,v0),(a1,v1)] w) (h0:find kn a0=some v0:=by exact rfl) (h1:find kn a1=some v1:=by exact rfl):vcC P n c Q kn w:=zR0 [(a0,v0),(a1,v1)] ⟨h0,h1,trivial⟩ h
theorem vk3 {c:Code} (a0 a1 a2:Nat) {v0 v1 v2:Value} (h:vcC P n c Q [(a0,v0),(a1,v1),(a2,v2)] w) (h0:find kn a0=some v0:=by exact rfl) (h1:find kn a1=some v1:=by exact rfl) (h2:find kn a2=some v2:=by exact rfl):vcC P n c Q kn w:=zR0 [(a0,v0),(a1,v1),(a2,v2)] ⟨h0,h1,h2,trivial⟩ h
theorem vk4 {c:Code} (a0 a1 a2 a3:Nat) {v0 v1 v2 v3:Value} (h:vcC P n c Q [(a0,v0),(a1,v1),(a2,v2),(a3,v3)] w) (h0:find kn a0=some v0:=by exact rfl) (h1:find kn a1=some v1:=by exact rfl) (h2:find kn a2=some v2:=by exact rfl) (h3:find kn a3=some v3:=by exact rfl):vcC P n c Q kn w:=zR0 [(a0,v0),(a1,v1),(a2,v2),(a3,v3)] ⟨h0,h1,h2,h3,trivial⟩ h
theorem vk5 {c:Code} (a0 a1 a2 a3 a4:Nat) {v0 v1 v2 v3 v4:Value} (h:vcC P n c Q [(a0,v0),(a1,v1),(a2,v2),(a3,v3),(a4,v4)] w) (h0:find kn a0=some v0:=by exact rfl) (h1:find kn a1=some v1:=by exact rfl) (h2:find kn a2=some v2:=by exact rfl) (h3:find kn a3=some v3:=by exact rfl) (h4:find kn a4=some v4:=by exact rfl):vcC P n c Q kn w:=zR0 [(a0,v0),(a1,v1),(a2,v2),(a3,v3),(a4,v4)] ⟨h0,h1,h2,h3,h4,trivial⟩ h
theorem vk7 {c:Code} (a0 a1 a2 a3 a4 a5 a6:Nat) {v0 v1 v2 v3 v4 v5 v6:Value} (h:vcC P n c Q [(a0,v0),(a1,v1),(a2,v2),(a3,v3),(a4,v4),(a5,v5),(a6,v6)] w) (h0:find kn a0=some v0:=by exact rfl) (h1:find kn a1=some v1:=by exact rfl) (h2:find kn a2=some v2:=by exact rfl) (h3:find kn a3=some v3:=by exact rfl) (h4:find kn a4=some v4:=by exact rfl) (h5:find kn a5=some v5:=by exact rfl) (h6:find kn a6=some v6:=by exact rfl):vcC P n c Q kn w:=zR0 [(a0,v0),(a1,v1),(a2,v2),(a3,v3),(a4,v4),(a5,v5),(a6,v6)] ⟨h0,h1,h2,h3,h4,h5,h6,trivial⟩ h
theorem vk8 {c:Code} (a0 a1 a2 a3 a4 a5 a6 a7:Nat) {v0 v1 v2 v3 v4 v5 v6 v7:Value} (h:vcC P n c Q [(a0,v0),(a1,v1),(a2,v2),(a3,v3),(a4,v4),(a5,v5),(a6,v6),(a7,v7)] w) (h0:find kn a0=some v0:=by exact rfl) (h1:find kn a1=some v1:=by exact rfl) (h2:find kn a2=some v2:=by exact rfl) (h3:find kn a3=some v3:=by exact rfl) (h4:find kn a4=some v4:=by exact rfl) (h5:find kn a5=some v5:=by exact rfl) (h6:find kn a6=some v6:=by exact rfl) (h7:find kn a7=some v7:=by exact rfl):vcC P n c Q kn w:=zR0 [(a0,v0),(a1,v1),(a2,v2),(a3,v3),(a4,v4),(a5,v5),(a6,v6),(a7,v7)] ⟨h0,h1,h2,h3,h4,h5,h6,h7,trivial⟩ h
theorem sr {id:Nat} {L:List Oper} {y:Code} (h:vcL P n L (Exit.then (y.wp P Q) Q) L kn w):vcC P n (.seq (.region id L.toArray false) y) Q kn w:=zC5 (zB4 h)
theorem et {c:Code} (h:vcC P n c Q kn w):vcL P n L (Exit.then (c.wp P Q) Q) [] kn w:=zI6 (zA6 h)
theorem kt {c:Code} (h:vcC P n c Q kn w):vcC P n .skip (Exit.then (c.wp P Q) Q) kn w:=zA5 (zA6 h)
theorem vif {t:Nat} {x y:Code} {b:Bool} (h1:b=true→vcC P n x Q ((t,.bool true)::kn) w) (h2:b=false→vcC P n y Q ((t,.bool false)::kn) w) (hc:find kn t=some (.bool b):=by exact rfl):vcC P n (.cond (.tmp t) x y) Q kn w:=jM9 hc h1 h2
variable {s:Nat}
theorem km (hS:S w) {i:Nat} {x:Operand} {v:Value} (next:vK P n L Q s S false r (put (some d) v kn) w) (hi:nth L i=some ⟨some d,.move x,ty,pos,aft,g⟩:=by exact rfl) (hw:gd L kn g=some true:=by exact rfl) (hd:zI7 n (some d)=true:=by exact rfl) (his:Nat.beq i s=false:=by exact rfl)
    (hx:evO kn x=some v:=by exact rfl):vK P n L Q s S false ((i,true)::r) kn w:=zB0 hi hw hd his (fun _=>hS) (fun _=>jI3 hx) next
end
end Sx
