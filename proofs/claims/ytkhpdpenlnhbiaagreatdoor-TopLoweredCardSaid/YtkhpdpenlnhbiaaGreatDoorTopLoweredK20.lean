/- A part of the proof: contracts of functions and plain laws; each theorem says its own conditions. -/
import Derived.Test.YtkhpdpenlnhbiaaGreatDoorTopLoweredK7
import Derived.Test.YtkhpdpenlnhbiaaGreatDoorTopLoweredK3
import Derived.Test.YtkhpdpenlnhbiaaGreatDoorTopLoweredK19
set_option linter.unusedVariables false
set_option linter.unusedSimpArgs false
/- The engine: bits and shifts;maps of numbers;what a callee owns and changes,as one piece. -/
namespace Sx
open Go Go.RowKit
section
variable {P:Program} {n:Fr} {L:List Oper} {Q:Exit→Act→World→Prop} {kn:Kn} {w w0:World} {M:List Nat} {hs:List Res} {rest:List Oper}
variable {d ty:Nat} {pos:String} {aft:Array Edge} {g:Option (Nat×Bool)}
variable {N:Act→World→Prop}
theorem y_and {T U:Nat} {x y:Operand} {p q r:Int} {k:IntKind} (hx:evO kn x=some (.int k p)) (hy:evO kn y=some (.int k q)) (hr:k.wrap ((BitVec.ofInt k.bits p) &&& (BitVec.ofInt k.bits q)).toNat=r) :
    Y P n kn w ⟨some d,.binOp .and T x y U,ty,pos,aft,g⟩ (.int k r):=y_bo hx hy (by subst hr;simp [eqGuard,binOp,Op.intBits])
theorem y_or {T U:Nat} {x y:Operand} {p q r:Int} {k:IntKind} (hx:evO kn x=some (.int k p)) (hy:evO kn y=some (.int k q)) (hr:k.wrap ((BitVec.ofInt k.bits p) ||| (BitVec.ofInt k.bits q)).toNat=r) :
    Y P n kn w ⟨some d,.binOp .or T x y U,ty,pos,aft,g⟩ (.int k r):=y_bo hx hy (by subst hr;simp [eqGuard,binOp,Op.intBits])
theorem e_lkF1 (st:St w0 M hs w) (i:Nat) {T k e b:Nat} {x y:Operand} {s:Wd} {z:Value} {kvs:List (Wd×Value)} (hw:gd L kn g=some true) (hd:okDst n (some d)=true) (hx:evO kn x=some (.map (some b))) (hy:evO kn y=some (str s))
    (hi:nth hs i=some (.blk b (mapF kvs))) (ht:P.underlying T=some (.map k e)) (hk:P.underlying k=some .string) (hz:∀ w,(zeroValue e).run P w=.ok z w)
    (next:vN n N ((d,(getF kvs s).getD z)::kn) w):vS P n L Q (⟨some d,.lookup T x y false,ty,pos,aft,g⟩) N kn w:=by
  have hb:w.heap[b]?=some (mapF kvs):=st.res hi
  obtain⟨m,hf⟩:=findNow_F s kvs 0 0
  refine e_run (v:=(getF kvs s).getD z) (w':=w) hw hd (fun a ha=>?_) next
  have hfk:=findKey_str (P:=P) hk hf w
  have hrun:(Instr.lookup T (.map (some b)) (str s) false).run P w=.ok ((getF kvs s).getD z) w:=by
    cases hg:getF kvs s with
    | none=>
      rw [hg] at hfk
      simp [Instr.lookup,getObj,Sem.run_bind,underlying,Sem.run,ht,hb,Result.andThen,checkKey_str hk,hfk,hz]
    | some u=>
      rw [hg] at hfk
      simp [Instr.lookup,getObj,Sem.run_bind,underlying,Sem.run,ht,hb,Result.andThen,checkKey_str hk,hfk]
  simp only [execOp,ha.ev hx,ha.ev hy,Sem.run_bind,hrun,Result.andThen_ok];rfl
abbrev iV (i:Int):Value:=.int .i64 i
abbrev entI (kvs:List (Int×Value)):List MapEntry:=kvs.zipIdx.map fun p=>{key:=iV p.1.1,val:=p.1.2,born:=p.2}
abbrev mapI (kvs:List (Int×Value)):Obj:=.map (entI kvs).toArray kvs.length
def getI:List (Int×Value)→Int→Option Value
  | [],_=>none
  | (k,v)::r,s=>if s=k then some v else getI r s
theorem findNow_I (s:Int):∀ (kvs:List (Int×Value)) (j i:Nat),∃ m,Instr.findNow (.int .i64) (iV s) ((kvs.zipIdx j).map fun p=>({key:=iV p.1.1,val:=p.1.2,born:=p.2}:MapEntry)) i=some ((getI kvs s).map fun v=>(m,v))
  | [],j,i=>⟨0,rfl⟩
  | (k,v)::r,j,i=>by
    by_cases hk:s=k
    · subst hk
      exact⟨i,by simp [Instr.findNow,Instr.sameNow,getI]⟩
    · obtain⟨m,hm⟩:=findNow_I s r (j+1) (i+1)
      refine⟨m,?_⟩
      have hb:(s == k)=false:=by simpa using hk
      simp only [List.zipIdx_cons,List.map_cons,Instr.findNow,Instr.sameNow,hb,getI,hk,if_true,if_false]
      exact hm
theorem checkKey_int {k:Nat} (hk:P.underlying k=some (.int .i64)) (em:Bool) (s:Int) (w:World):(Instr.checkKey em 10000 k (iV s)).run P w=.ok () w:=by
  show (Instr.checkKey em (9999+1) k (iV s)).run P w=_
  unfold Instr.checkKey
  simp [Sem.run_bind,underlying,Sem.run,hk,Result.andThen]
theorem findKey_int {k:Nat} (hk:P.underlying k=some (.int .i64)) {s:Int} {es:List MapEntry} {r:Option (Nat×Value)} (h:Instr.findNow (.int .i64) (iV s) es 0=some r) (w:World):(Instr.findKey k (iV s) es).run P w=.ok r w:=by
  simp [Instr.findKey,Sem.run_bind,underlying,Sem.run,hk,Result.andThen,h]
theorem e_mkI (st:St w0 M hs w) {T:Nat} (hw:gd L kn g=some true) (hd:okDst n (some d)=true)
    (next:∀ b w',w0.heap.size≤b→St w0 M (.blk b (mapI [])::hs) w'→vN n N ((d,.map (some b))::kn) w'):vS P n L Q (⟨some d,.makeMap T none,ty,pos,aft,g⟩) N kn w:=
  e_run (v:=.map (some w.heap.size)) (w':=w.alloc (.map #[] 0)) hw hd (fun a ha=>by
    simp only [execOp,Option.map_none];rfl) (next _ _ st.chg.size (st.pushR (Chg.alloc w _) (heap_alloc w _) (by simp [Res.at?])))
theorem run_upI {T k e b:Nat} {s:Int} {v:Value} {kvs:List (Int×Value)} (hb:w.heap[b]?=some (mapI kvs)) (ht:P.underlying T=some (.map k e)) (hk:P.underlying k=some (.int .i64)) (hno:getI kvs s=none) :
    (Instr.mapUpdate T (.map (some b)) (iV s) v).run P w=.ok () (ChangeMaps.setBlock w b (mapI (kvs++[(s,v)])))∧Chg [b] w (ChangeMaps.setBlock w b (mapI (kvs++[(s,v)])))∧(ChangeMaps.setBlock w b (mapI (kvs++[(s,v)]))).heap[b]?=some (mapI (kvs++[(s,v)])):=by
  obtain⟨m,hf⟩:=findNow_I s kvs 0 0
  rw [hno] at hf
  simp only [Option.map_none] at hf
  obtain⟨q1,q2,q3⟩:=setObj_chg (P:=P) (o':=mapI (kvs++[(s,v)])) hb (by simp)
  have hent:(entI kvs).toArray.push {key:=iV s,val:=v,born:=kvs.length}=(entI (kvs++[(s,v)])).toArray:=by
    simp [entI,List.zipIdx_append]
  have hfk:=findKey_int (P:=P) hk hf w
  refine⟨?_,q2,q3⟩
  have e1:(kvs++[(s,v)]).length=kvs.length+1:=by simp
  simp only [mapI,← hent,e1] at q1 ⊢
  simp [Instr.mapUpdate,getObj,Sem.run_bind,underlying,Sem.run,ht,hb,Result.andThen,checkKey_int hk,hfk]
  simpa using q1
theorem e_muI (st:St w0 M hs w) (i:Nat) {T k e b:Nat} {x y z:Operand} {s:Int} {v:Value} {kvs:List (Int×Value)} (hw:gd L kn g=some true) (hx:evO kn x=some (.map (some b))) (hy:evO kn y=some (iV s)) (hv:evO kn z=some v)
    (hi:nth hs i=some (.blk b (mapI kvs))) (hm:b∈M∨w0.heap.size≤b) (ht:P.underlying T=some (.map k e)) (hk:P.underlying k=some (.int .i64)) (hno:getI kvs s=none)
    (next:∀ w',St w0 M (setNth hs i (.blk b (mapI (kvs++[(s,v)])))) w'→vN n N kn w'):vS P n L Q (⟨none,.mapUpdate T x y z,ty,pos,aft,g⟩) N kn w:=by
  obtain⟨r,q2,q3⟩:=run_upI (P:=P) (v:=v) (st.res hi) ht hk hno
  exact e_do (w':=_) hw rfl (fun a ha=>by simp only [execOp,ha.ev hx,ha.ev hy,ha.ev hv,Sem.run_bind,r,Result.andThen_ok];rfl) (next _ (st.turn hi rfl rfl q2 hm q3))
theorem e_inI (st:St w0 M hs w) (i:Nat) {T k e b:Nat} {x y z:Operand} {s:Int} {v:Value} {kvs:List (Int×Value)} (hw:gd L kn g=some true) (hx:evO kn x=some (.map (some b))) (hy:evO kn y=some (iV s)) (hv:evO kn z=some v)
    (hi:nth hs i=some (.blk b (mapI kvs))) (hm:b∈M∨w0.heap.size≤b) (ht:P.underlying T=some (.map k e)) (hk:P.underlying k=some (.int .i64)) (hno:getI kvs s=none)
    (next:∀ w',St w0 M (setNth hs i (.blk b (mapI (kvs++[(s,v)])))) w'→vN n N kn w'):vS P n L Q (⟨none,.insert T x y z,ty,pos,aft,g⟩) N kn w:=by
  obtain⟨r,q2,q3⟩:=run_upI (P:=P) (v:=v) (st.res hi) ht hk hno
  exact e_do (w':=_) hw rfl (fun a ha=>by simp only [execOp,ha.ev hx,ha.ev hy,ha.ev hv,Sem.run_bind,r,Result.andThen_ok];rfl) (next _ (st.turn hi rfl rfl q2 hm q3))
theorem e_lkI1 (st:St w0 M hs w) (i:Nat) {T k e b:Nat} {x y:Operand} {s:Int} {z:Value} {kvs:List (Int×Value)} (hw:gd L kn g=some true) (hd:okDst n (some d)=true) (hx:evO kn x=some (.map (some b))) (hy:evO kn y=some (iV s))
    (hi:nth hs i=some (.blk b (mapI kvs))) (ht:P.underlying T=some (.map k e)) (hk:P.underlying k=some (.int .i64)) (hz:∀ w,(zeroValue e).run P w=.ok z w)
    (next:vN n N ((d,(getI kvs s).getD z)::kn) w):vS P n L Q (⟨some d,.lookup T x y false,ty,pos,aft,g⟩) N kn w:=by
  have hb:w.heap[b]?=some (mapI kvs):=st.res hi
  obtain⟨m,hf⟩:=findNow_I s kvs 0 0
  refine e_run (v:=(getI kvs s).getD z) (w':=w) hw hd (fun a ha=>?_) next
  have hfk:=findKey_int (P:=P) hk hf w
  have hrun:(Instr.lookup T (.map (some b)) (iV s) false).run P w=.ok ((getI kvs s).getD z) w:=by
    cases hg:getI kvs s with
    | none=>
      rw [hg] at hfk
      simp [Instr.lookup,getObj,Sem.run_bind,underlying,Sem.run,ht,hb,Result.andThen,checkKey_int hk,hfk,hz]
    | some u=>
      rw [hg] at hfk
      simp [Instr.lookup,getObj,Sem.run_bind,underlying,Sem.run,ht,hb,Result.andThen,checkKey_int hk,hfk]
  simp only [execOp,ha.ev hx,ha.ev hy,Sem.run_bind,hrun,Result.andThen_ok];rfl
def Reg (S:List Nat) (φ:World→Prop) (w:World):Prop:=φ w∧(∀ k∈S,k<w.heap.size)∧Loc S φ
def RegP (S S':List Nat) (φ':World→Prop) (w w':World):Prop:=Reg S' φ' w'∧Chg S w w'∧∀ k∈S',k∈S∨w.heap.size≤k
def reg (M:List Nat) (base:Nat) (S:List Nat) (φ:World→Prop):Res:=.tree S fun w=>φ w∧∀ k∈S,k∈M∨base≤k
variable {w':World} {S S':List Nat} {φ φ':World→Prop}
theorem reg_holds {base' base:Nat} (h:Reg S φ w) (hm:∀ k∈S,k∈M∨base≤k):(reg M base S φ).holds base' w:=
  ⟨⟨h.1,hm⟩,h.2.1,fun a b hs hk hp=>⟨h.2.2 a b hs hk hp.1,hp.2⟩⟩
theorem St.regGet (st:St w0 M hs w) {i base:Nat} {M':List Nat} (hi:nth hs i=some (reg M' base S φ)):Reg S φ w:=by
  obtain⟨⟨h1,h2⟩,h3,h4⟩:=st.res hi
  exact⟨h1,h3,fun a b hs hk hp=>(h4 a b hs hk ⟨hp,h2⟩).1⟩
theorem St.regInit (h:Reg S φ w):St w S [reg S w.heap.size S φ] w:=
  ⟨Chg.refl _ _,List.pairwise_singleton _ _,by
    intro r hr
    simp only [List.mem_singleton] at hr
    subst hr
    exact reg_holds h fun k hk=>.inl hk⟩
theorem St.regP (st:St w0 M hs w) {i:Nat} (hi:nth hs i=some (reg M w0.heap.size S φ)) (p:RegP S S' φ' w w'):St w0 M (setNth hs i (reg M w0.heap.size S' φ')) w':=by
  obtain⟨⟨h1,h2⟩,-⟩:=st.res hi
  obtain⟨p1,p2,p3⟩:=p
  refine st.swap hi p2 (fun k hk=>hk) h2 p3 (reg_holds p1 fun k hk=>?_)
  rcases p3 k hk with h|h
  · exact h2 k h
  · exact .inr (Nat.le_trans st.chg.size h)
theorem St.regDone {i:Nat} (st:St w0 S hs w) (hi:nth hs i=some (reg S w0.heap.size S' φ')):RegP S S' φ' w0 w:=
  ⟨st.regGet hi,st.chg,(st.res hi).1.2⟩
def frnZ (M:List Nat) (base E size:Nat) (v:Value) (n:Nat) (xs:List Value):Res:=.tree v.ownBlock.toList fun w=>w.ownsRow 0 E size v n xs∧∀ k,v.ownBlock=some k→k∈M∨base≤k
theorem loc_ownsZ (E size n:Nat) (v:Value) (xs:List Value):Loc v.ownBlock.toList fun w=>w.ownsRow 0 E size v n xs:=by
  intro w w' hs hk ⟨h1,h2⟩
  refine⟨h1,h2.imp id fun ⟨g,cap,cur,e,hb,hc,hr⟩=>⟨g,cap,cur,e,hb,?_,hr⟩⟩
  rw [hk g (by rw [e];simp [Value.ownBlock])];exact hc
theorem frnZ_holds {base' base E size n:Nat} {v:Value} {xs:List Value} (ho:w.ownsRow 0 E size v n xs) (hm:∀ k,v.ownBlock=some k→k∈M∨base≤k):(frnZ M base E size v n xs).holds base' w:=
  ⟨⟨ho,hm⟩,fun k hk=>(World.ownsRow.lt ho k (by simpa using hk)).2,fun a b hs hk h=>⟨loc_ownsZ E size n v xs a b hs hk h.1,h.2⟩⟩
theorem St.appZ (st:St w0 M hs w) {i E size n n':Nat} {v v':Value} {xs xs':List Value} (hi:nth hs i=some (frnZ M w0.heap.size E size v n xs)) (hg:w.grownBy w' v.ownBlock)
    (hown:w'.ownsRow 0 E size v' n' xs') (hat:∀ k,v'.ownBlock=some k→v.ownBlock=some k∨w.heap.size≤k) :
    St w0 M (setNth hs i (frnZ M w0.heap.size E size v' n' xs')) w':=by
  obtain⟨⟨h1,h2⟩,-⟩:=st.res hi
  refine st.swap hi (Chg.of_grownByO hg) (by simp [Res.at?,frnZ]) (fun k hk=>h2 k (by simpa using hk)) (fun k hk=>?_) (frnZ_holds hown fun k hk=>?_)
  · simp only [Res.at?,frnZ,Option.mem_toList] at hk ⊢
    exact hat k hk
  · rcases hat k hk with h|h
    · exact h2 k h
    · exact .inr (Nat.le_trans st.chg.size h)
theorem slice_formZ {base E size len:Nat} {v:Value} {xs:List Value} (ho:w.ownsRow base E size v len xs):∃ oa cap,v=.slice oa len cap:=by
  rcases ho.2 with ⟨rfl,h0⟩|⟨g,cap,cur,rfl,_⟩
  · exact⟨none,0,by rw [h0]⟩
  · exact⟨_,_,rfl⟩
theorem e_appZ (st:St w0 M hs w) (i j:Nat) {T E size bytes m len c b:Nat} {x y:Operand} {v z:Value} {xs l:List Value} {fz:Nat×Nat} {ti:TypeInfo} (hw:gd L kn g=some true) (hd:okDst n (some d)=true)
    (hx:evO kn x=some v) (hy:evO kn y=some (.slice (some ⟨b,0,none⟩) m c)) (hi:nth hs i=some (frnZ M w0.heap.size E size v len xs)) (hj:nth hs j=some (.blk b (.cells l.toArray E fz)))
    (ht:P.underlying T=some (.slice E)) (hinfo:P.info? E=some ti) (hz:ti.zero=some z) (hsize:ti.size=size) (hby:ti.bytes=bytes) (hzs:z.cells.size=size) (hsz:Nat.blt 0 size=true)
    (hl:l.length=m*size) (h1:allOne l=true) (hm:Nat.blt 0 m=true) (h63:len+m≤maxLen) (hbytes:(len+m)*bytes≤140737488355328)
    (next:∀ oa cap w',St w0 M (setNth hs i (frnZ M w0.heap.size E size (.slice oa (len+m) cap) (len+m) (xs++l))) w'→vN n N ((d,.slice oa (len+m) cap)::kn) w') :
    vS P n L Q ⟨some d,.call ⟨.builtin .append,#[x,y],#[T,T]⟩,ty,pos,aft,g⟩ N kn w:=by
  have hb:w.heap[b]?=some (.cells l.toArray E fz):=st.res hj
  have hm':0<m:=by simpa [Nat.blt_eq] using hm
  obtain⟨v',w',hr,hown,hg,hnil,hat⟩:=run_append_own_at (P:=P) w 0 T ty E ti z size bytes ht hinfo hz hsize hby hzs (by simpa [Nat.blt_eq] using hsz) v len xs (st.res hi).1.1 ⟨b,0,none⟩ m c l hl
    (fun k u hk=>by rw [addr_add];exact cell_blk hb (by rw [nth_eq];simpa using hk)) (allOne_spec h1) h63 hbytes (Nat.zero_le _)
  obtain⟨oa,cap,rfl⟩:=slice_formZ hown
  refine e_bi [v,.slice (some ⟨b,0,none⟩) m c] hw hd (by simp [hx,hy]) (w':=w') (fun cs=>?_) (next oa cap w' (st.appZ hi hg hown (fun k hk=>by
    rcases hat with h|h
    · rw [h] at hk;exact .inl hk
    · rw [h] at hk;simp at hk;exact .inr (by omega))))
  simp only [builtin,Sem.run_bind,List.toArray,hr]
  rfl
theorem e_stZ (st:St w0 M hs w) (i:Nat) {x y:Operand} {T b off E size len cap:Nat} {xs:List Value} {v:Value} {vs:List Value} (hw:gd L kn g=some true) (hx:evO kn x=some (.pointer (some ⟨b,off,none⟩)))
    (hy:evO kn y=some v) (hv:v.cells.toList=vs) (h1:allOne vs=true) (hsz:∀ w,(Go.sizeOf T).run P w=.ok vs.length w)
    (hi:nth hs i=some (frnZ M w0.heap.size E size (.slice (some ⟨b,0,none⟩) len cap) len xs)) (hlt:off+vs.length≤xs.length)
    (next:∀ w',St w0 M (setNth hs i (frnZ M w0.heap.size E size (.slice (some ⟨b,0,none⟩) len cap) len (xs.take off++vs++xs.drop (off+vs.length)))) w'→vN n N kn w'):vS P n L Q (⟨none,.store T x y,ty,pos,aft,g⟩) N kn w:=by
  obtain⟨w',xs',hr,hh,hg',hl⟩:=run_storeCells_own (P:=P) 0 E size len cap b vs xs off 0 w (st.res hi).1.1 (by simpa using hlt) (allOne_spec h1)
  have hl':xs'=xs.take off++vs++xs.drop (off+vs.length):=by simpa using hl
  subst hl'
  refine e_do hw rfl (w':=w') (fun a ha=>?_) (next w' (st.appZ hi hg' hh (fun k hk=>.inl hk)))
  simp only [execOp,ha.ev hx,ha.ev hy]
  have hsz':v.cells.size=vs.length:=by rw [← hv];simp
  have key:(storeVar T ⟨b,off,none⟩ v).run P w=.ok () w':=by
    simp only [storeVar,Sem.run_bind,hsz,Result.andThen_ok,hsz',ne_eq,not_true_eq_false,↓reduceIte,hv,hr]
  simp only [Instr.storeAt,Instr.sureAddr,Sem.run_bind,Sem.run_pure,Result.andThen_ok,key]
end
theorem St.add {w0 w:World} {M:List Nat} {hs:List Res} (st:St w0 M hs w) {r:Res} (hr:r.holds w0.heap.size w) (hd:∀ x∈hs,∀ k∈r.at?,k∉x.at?):St w0 M (r::hs) w:=
  ⟨st.chg,List.pairwise_cons.2 ⟨hd,st.nodup⟩,fun x hx=>by
    rcases List.mem_cons.1 hx with rfl|hx
    · exact hr
    · exact st.here x hx⟩
theorem St.addB {w0 w:World} {M:List Nat} {hs:List Res} (st:St w0 M hs w) {b:Nat} {o:Obj} (h:w.heap[b]?=some o) (hd:∀ x∈hs,b∉x.at?):St w0 M (.blk b o::hs) w:=
  st.add (r:=.blk b o) h (fun x hx k hk=>by simp [Res.at?] at hk;subst hk;exact hd x hx)
theorem blk_at {b:Nat} {o:Obj}:(Res.blk b o).at?=[b]:=rfl
theorem frnZ_at {M:List Nat} {base E size n b len cap:Nat} {xs:List Value}:(frnZ M base E size (.slice (some ⟨b,0,none⟩) len cap) n xs).at?=[b]:=rfl
theorem St.swapHead2 {w0 w w':World} {M:List Nat} {hs:List Res} {r s r' s':Res} {C:List Nat} (st:St w0 M (r::s::hs) w) (c:Chg C w w') (hC:∀ k∈C,k∈r.at?∨k∈s.at?) (hm:∀ k∈C,k∈M∨w0.heap.size≤k)
    (h1:∀ k∈r'.at?,k∈r.at?) (h2:∀ k∈s'.at?,k∈s.at?) (hr:r'.holds w0.heap.size w') (hs':s'.holds w0.heap.size w'):St w0 M (r'::s'::hs) w':=by
  obtain⟨n1,n2⟩:=List.pairwise_cons.1 st.nodup
  obtain⟨n3,n4⟩:=List.pairwise_cons.1 n2
  refine⟨st.chg.trans' c hm,List.pairwise_cons.2 ⟨fun x hx k hk=>?_,List.pairwise_cons.2 ⟨fun x hx k hk=>n3 x hx k (h2 k hk),n4⟩⟩,fun x hx=>?_⟩
  · rcases List.mem_cons.1 hx with rfl|hx
    · exact fun hk'=>n1 s (.head _) k (h1 k hk) (h2 k hk')
    · exact n1 x (.tail _ hx) k (h1 k hk)
  · rcases List.mem_cons.1 hx with rfl|hx
    · exact hr
    · rcases List.mem_cons.1 hx with rfl|hx
      · exact hs'
      · refine Res.holds_chg (st.here x (.tail _ (.tail _ hx))) (fun k hk=>st.lt (.tail _ (.tail _ hx)) hk) c (fun k hk hk'=>?_)
        rcases hC k hk' with h|h
        · exact n1 x (.tail _ hx) k h hk
        · exact n3 x hx k h hk
theorem St.pushBB {w0 w w':World} {M:List Nat} {hs:List Res} (st:St w0 M hs w) (c:Chg [] w w') {a b:Nat} {o p:Obj} (ha:w'.heap[a]?=some o) (hb:w'.heap[b]?=some p) (hla:w.heap.size≤a) (hlb:w.heap.size≤b) (hne:a≠b):St w0 M (.blk a o::.blk b p::hs) w':=by
  have st1:=st.pushR c (r:=.blk b p) hb (by simpa [blk_at] using hlb)
  refine st1.addB ha (fun x hx=>?_)
  rcases List.mem_cons.1 hx with rfl|hx
  · simpa [blk_at] using hne
  · exact fun hk=>absurd (st.lt hx hk) (by omega)
def blkIf (p:Prop) (b:Nat) (o:Obj):Res:=.tree [b] fun w=>p→w.heap[b]?=some o
theorem blkIf_no {p:Prop} {b base:Nat} {o:Obj} {w:World} (hp:¬ p) (h:b<w.heap.size):(blkIf p b o).holds base w:=
  ⟨fun q=>absurd q hp,fun k hk=>by simp at hk;subst hk;exact h,fun w w' hs hk h hp=>(hk b (by simp)).trans (h hp)⟩
theorem St.lostIf {w0 w w':World} {M:List Nat} {hs:List Res} {i b:Nat} {o o':Obj} {p:Prop} (st:St w0 M hs w) (hi:nth hs i=some (.blk b o')) (c:Chg [b] w w') (hm:b∈M∨w0.heap.size≤b) (hp:¬ p):St w0 M (setNth hs i (blkIf p b o)) w':=
  st.swap (C:=[b]) hi c (by simp [Res.at?]) (by simpa using hm) (fun k hk=>.inl hk) (blkIf_no hp (Nat.lt_of_lt_of_le (Array.getElem?_eq_some_iff.1 (st.res hi)).1 c.size))
end Sx
/- The graph of a thread that is being made: its nodes' cells. -/
namespace ParS
open Sx LexS Go Go.RowKit
def vB:Vl→Bool | .num _=>false | .slot _=>true
def vS:Vl→Int | .num _=>0 | .slot k=>(k:Int)
def vW:Vl→Int | .num w=>w | .slot _=>0
def nS:Nd→Int | .set _ s _ _=>(s:Int)|_=>0
abbrev vlC (v:Vl):List Value:=[.bool (vB v),.int .i64 (vS v),.int .i64 (vW v)]
def u8And (p q:Int):Int:=IntKind.u8.wrap ((BitVec.ofInt 8 p) &&& (BitVec.ofInt 8 q)).toNat
def okF (s:Nat):Nd→Prop
  | .set op t a b=>0<op∧op<19∧t<s∧inV s a∧inV s b∧(twoOp op=false→b=.num 0)
  | .prt a=>inV s a
  | .fin=>True
def wiB (p has k most:Int):Bool:=if u8And p has=0 then decide (k=0) else decide (0≤k∧k<most)
section
variable {s:Nat} {x:Nd}
theorem wiB_pos {p has k most:Int} (h:u8And p has≠0) (h1:0≤k) (h2:k<most):wiB p has k most=true:=by unfold wiB;rw [if_neg h];exact decide_eq_true ⟨h1,h2⟩
theorem wiB_zero {p has most:Int} (h:u8And p has=0):wiB p has 0 most=true:=by unfold wiB;rw [if_pos h];rfl
end
structure GN (N:List Nd) (s:Nat):Prop where
  pos:0<N.length
  le:N.length≤4096
  sl:s≤4096
  ok:∀ x∈N,okF s x
  fin:∀ (j:Nat) x,N[j]?=some x→(x=.fin↔j+1=N.length)
end ParS
/- The graphs of a program: what lowering makes of a tree,and what holds of it. -/
namespace ParS
open Sx LexS Go Go.RowKit
structure Gn where
  k:Int
  op:Int
  sl:Int
  th:Int
  a:Vl
  b:Vl
  nx:Nat
  el:Nat
structure LS where
  N:List Gn
  s:Nat
  op:List (Nat×Bool)
  ov:Bool
abbrev gnC (g:Gn) (og:Nat):List Value:=[.int .u8 g.k,.int .u8 g.op,.int .i64 g.sl,.int .i64 g.th,.bool (vB g.a),.int .i64 (vS g.a),.int .i64 (vW g.a),.bool (vB g.b),.int .i64 (vS g.b),.int .i64 (vW g.b),.int .i64 (g.nx:Int),.int .i64 (g.el:Int),.int .i64 (og:Int)]
def gnL:List Gn→Nat→List Value
  | [],_=>[]
  | g::r,i=>gnC g i++gnL r (i+1)
def setT (b:Bool) (to:Nat) (g:Gn):Gn:=if b=true then {g with el:=to} else {g with nx:=to}
def ptc (to:Nat) (N:List Gn) (f:Nat×Bool):List Gn:=N.modify f.1 (setT f.2 to)
def leadL (op:List (Nat×Bool)) (to:Nat) (N:List Gn):List Gn:=op.foldl (ptc to) N
def putL (g:Gn) (st:LS):LS:=if 4096≤st.N.length then {st with ov:=true} else ⟨leadL st.op st.N.length st.N++[g],st.s,[(st.N.length,false)],st.ov⟩
def putAt (st:LS):Nat:=if 4096≤st.N.length then 0 else st.N.length
def slotL (st:LS):LS:={st with s:=st.s+1}
def idxO (l:List Dc) (nm:Wd):Option Nat:=l.findIdx? fun d=>decide (d.nm=nm)
def idxI (l:List Dc) (nm:Wd):Int:=match idxO l nm with|some k=>(k:Int)|none=>-1
abbrev mkG (k:Int) (op sl th:Int) (a b:Vl):Gn:=⟨k,op,sl,th,a,b,0,0⟩
section
variable (lo sh lk:List Dc)
def vaL:Ex→LS→Vl×LS
  | .mk k op wd nm kids a,st=>if k=1 then (.num wd,st) else if k=2 then (match idxO lo nm with
      | some i=>(.slot i,st)
      | none=>(.slot st.s,putL (mkG 2 0 st.s (idxI sh nm) (.num 0) (.num 0)) (slotL st))) else match kids with
    | [x]=>(.slot (vaL x st).2.s,putL (mkG 1 op (vaL x st).2.s 0 (vaL x st).1 (.num 0)) (slotL (vaL x st).2))
    | [x,y]=>(.slot (vaL y (vaL x st).2).2.s,putL (mkG 1 op (vaL y (vaL x st).2).2.s 0 (vaL x st).1 (vaL y (vaL x st).2).1) (slotL (vaL y (vaL x st).2).2))
    | _=>(.num 0,st)
theorem va_1 (op wd:Int) (nm:Wd) (kids:List Ex) (a:Int) (st:LS):vaL lo sh (.mk 1 op wd nm kids a) st=(.num wd,st):=by
  match kids with
  | []=>simp [vaL]
  | [x]=>simp [vaL]
  | [x,y]=>simp [vaL]
  | x::y::z::r=>simp [vaL]
theorem va_2 (op wd:Int) (nm:Wd) (kids:List Ex) (a:Int) (st:LS):vaL lo sh (.mk 2 op wd nm kids a) st=(match idxO lo nm with
      | some i=>(.slot i,st)
      | none=>(.slot st.s,putL (mkG 2 0 st.s (idxI sh nm) (.num 0) (.num 0)) (slotL st))):=by
  match kids with
  | []=>simp [vaL]
  | [x]=>simp [vaL]
  | [x,y]=>simp [vaL]
  | x::y::z::r=>simp [vaL]
theorem va_u {k:Int} (h1:k≠1) (h2:k≠2) (op wd:Int) (nm:Wd) (x:Ex) (a:Int) (st:LS):vaL lo sh (.mk k op wd nm [x] a) st=(.slot (vaL lo sh x st).2.s,putL (mkG 1 op (vaL lo sh x st).2.s 0 (vaL lo sh x st).1 (.num 0)) (slotL (vaL lo sh x st).2)):=by simp [vaL,h1,h2]
theorem va_b {k:Int} (h1:k≠1) (h2:k≠2) (op wd:Int) (nm:Wd) (x y:Ex) (a:Int) (st:LS):vaL lo sh (.mk k op wd nm [x,y] a) st=(.slot (vaL lo sh y (vaL lo sh x st).2).2.s,putL (mkG 1 op (vaL lo sh y (vaL lo sh x st).2).2.s 0 (vaL lo sh x st).1 (vaL lo sh y (vaL lo sh x st).2).1) (slotL (vaL lo sh y (vaL lo sh x st).2).2)):=by simp [vaL,h1,h2]
theorem va_0 {k:Int} (h1:k≠1) (h2:k≠2) (op wd:Int) (nm:Wd) (kids:List Ex) (a:Int) (st:LS) (h:kids.length≠1) (h3:kids.length≠2):vaL lo sh (.mk k op wd nm kids a) st=(.num 0,st):=by
  match kids,h,h3 with
  | [],_,_=>simp [vaL,h1,h2]
  | [x],h,_=>simp at h
  | [x,y],_,h=>simp at h
  | x::y::z::r,_,_=>simp [vaL,h1,h2]
def giL (nm:Wd) (v:Vl) (st:LS):LS:=match idxO lo nm with
  | some i=>putL (mkG 1 0 i 0 v (.num 0)) st
  | none=>putL (mkG 3 0 0 (idxI sh nm) v (.num 0)) st
def swL (nm other:Wd) (v:Vl) (st:LS):LS:=match idxO lo nm with
  | some i=>putL (mkG 4 0 i (idxI sh other) v (.num 0)) st
  | none=>giL lo sh nm (.slot st.s) (putL (mkG 4 0 st.s (idxI sh other) v (.num 0)) (slotL st))
def brL (v:Vl) (st:LS):LS:=putL (mkG 8 0 0 0 v (.num 0)) st
mutual
def smL:Sm→LS→LS
  | .mk k nm other e body els a,st=>match e with
    | [x]=>if k=1 then giL lo sh nm (vaL lo sh x st).1 (vaL lo sh x st).2
      else if k=2 then swL lo sh nm other (vaL lo sh x st).1 (vaL lo sh x st).2
      else if k=3 then
        let r:=vaL lo sh x st
        let s2:=blL body (brL r.1 r.2)
        let s3:=blL els {s2 with op:=[(putAt r.2,true)]}
        {s3 with op:=s2.op++s3.op}
      else if k=4 then
        let r:=vaL lo sh x st
        let s2:=blL body (brL r.1 r.2)
        if s2.ov=true then s2 else {s2 with N:=leadL s2.op st.N.length s2.N,op:=[(putAt r.2,true)]}
      else putL (mkG 7 0 0 0 (vaL lo sh x st).1 (.num 0)) (vaL lo sh x st).2
    | _=>if k=5 then putL (mkG 6 0 0 (idxI lk nm) (.num 0) (.num 0)) (blL body (putL (mkG 5 0 0 (idxI lk nm) (.num 0) (.num 0)) st)) else st
termination_by structural s=>s
def blL:List Sm→LS→LS
  | [],st=>st
  | s::r,st=>if st.ov=true then st else blL r (smL s st)
termination_by structural l=>l
end
def grL (body:List Sm):Option (List Gn×Nat):=
  let st:=blL lo sh lk body ⟨[],lo.length,[],false⟩
  if st.ov=true then none else
    let st2:=putL (mkG 9 0 0 0 (.num 0) (.num 0)) st
    if st2.ov=true then none else some (st2.N,st2.s)
end
def ky (g:Gn):Int×Int×Int×Int×Vl×Vl:=(g.k,g.op,g.sl,g.th,g.a,g.b)
theorem ky_set (b:Bool) (to:Nat) (g:Gn):ky (setT b to g)=ky g:=by unfold setT;split <;> rfl
theorem ptc_len (to:Nat) (N:List Gn) (f:Nat×Bool):(ptc to N f).length=N.length:=by simp [ptc]
theorem leadL_len (op:List (Nat×Bool)) (to:Nat) (N:List Gn):(leadL op to N).length=N.length:=by
  induction op generalizing N with
  | nil=>rfl
  | cons f r ih=>show (leadL r to (ptc to N f)).length=_;rw [ih,ptc_len]
theorem ptc_ky (to:Nat) (N:List Gn) (f:Nat×Bool):(ptc to N f).map ky=N.map ky:=by
  apply List.ext_getElem?
  intro i
  simp only [ptc,List.getElem?_map,List.getElem?_modify]
  cases h:N[i]? with
  | none=>simp
  | some g=>by_cases hi:f.1=i <;> simp [hi,ky_set]
theorem leadL_ky (op:List (Nat×Bool)) (to:Nat) (N:List Gn):(leadL op to N).map ky=N.map ky:=by
  induction op generalizing N with
  | nil=>rfl
  | cons f r ih=>show (leadL r to (ptc to N f)).map ky=_;rw [ih,ptc_ky]
end ParS
/- Which trees are programs: what 'check' makes of a tree that was parsed. -/
namespace ParS
open Sx LexS Go Go.RowKit
section
variable (V W G:Wd→Bool)
mutual
def ckE:Ex→Nat→Bool
  | .mk k op wd nm kids a,d=>(!decide (k=2) || V nm) && decide (d≤64) && ckEs kids (d+1)
termination_by structural e=>e
def ckEs:List Ex→Nat→Bool
  | [],_=>true
  | e::r,d=>ckE e d && ckEs r d
termination_by structural l=>l
end
mutual
def ckS:Sm→Bool
  | .mk k nm other e body els a=>(!decide (k=1) || V nm) && (!decide (k=2) || (V nm && W other)) && (!decide (k=5) || G nm) && ckEs V e 1 && ckSs body && ckSs els
termination_by structural s=>s
def ckSs:List Sm→Bool
  | []=>true
  | s::r=>ckS s && ckSs r
termination_by structural l=>l
end
end
abbrev nmL (l:List Dc):List Wd:=l.map (·.nm)
def ckDs (mx:Nat):List Wd→List Dc→Nat→Bool
  | _,[],_=>true
  | seen,d::r,i=>!decide (d.nm∈seen) && decide (i≠mx) && ckDs mx (seen++[d.nm]) r (i+1)
def vrN (loc sh:List Wd) (nm:Wd):Bool:=decide (nm∈loc) || decide (nm∈sh)
def shN (loc sh:List Wd) (nm:Wd):Bool:=!decide (nm∈loc) && decide (nm∈sh)
def lkN (loc sh lk:List Wd) (nm:Wd):Bool:=!decide (nm∈loc) && !decide (nm∈sh) && decide (nm∈lk)
def ckT (sh lk:List Wd) (t:Th):Bool:=ckDs 64 (sh++lk) t.locals 0 && ckSs (vrN (nmL t.locals) sh) (shN (nmL t.locals) sh) (lkN (nmL t.locals) sh lk) t.body
def ckTs (sh lk:List Wd):List Wd→List Th→Nat→Bool
  | _,[],_=>true
  | seen,t::r,i=>!decide (t.nm∈seen) && decide (i≠8) && ckT sh lk t && ckTs sh lk (seen++[t.nm]) r (i+1)
def ckP (p:Pg):Bool:=ckDs 64 [] p.shared 0 && ckDs 16 (nmL p.shared) p.locks 0 && ckTs (nmL p.shared) (nmL p.locks) (nmL p.shared++nmL p.locks) p.threads 0
end ParS
