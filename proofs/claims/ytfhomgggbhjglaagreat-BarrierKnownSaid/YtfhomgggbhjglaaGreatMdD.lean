/- slices.SortFunc of sets by their lists of elements: the library's contract, told of a row of the call's own. -/
import Derived.Test.YtfhomgggbhjglaaGreatMdC
import Derived.Shelf.SlSortCmp.NoneTotal
namespace Go.MB
open Go Go.Sx Go.Proofs Go.Shelf Go.RowKit Go.Sort
set_option linter.unusedVariables false
set_option linter.unusedSimpArgs false
noncomputable section
abbrev tU:Ty:=.int .u64
def encS (x:Fin 1024):Value:=.int .u64 (x.val:Int)
theorem ltOf_F:ltOf cmpF = ltF:=rfl
theorem swoF:SWO (ltOf cmpF) where
  irrefl x:=by rw [ltOf_F]; exact ltF_irr x
  trans x y z h k:=by rw [ltOf_F] at *; exact ltF_trans h k
  ntrans x y z h k:=by rw [ltOf_F] at *; exact ltF_ntrans h k
theorem frm_grow {w w' : World} (h:Frm w (fun _ => False) w') : ∃ q os',w' = grow (w.drewN q) os':=by
  refine ⟨w'.drawn - w.drawn,w'.heap.extract w.heap.size w'.heap.size,?_⟩
  have hd:=h.drawn
  have hh:w'.heap = w.heap ++ w'.heap.extract w.heap.size w'.heap.size:=by
    apply Array.ext_getElem?
    intro b
    by_cases c:b < w.heap.size
    · rw [Array.getElem?_append_left c]
      exact h.block b c fun x => x
    · rw [Array.getElem?_append_right (by omega),Array.getElem?_extract]
      by_cases d:b < w'.heap.size
      · rw [if_pos (by omega),show w.heap.size + (b - w.heap.size) = b by omega]
      · rw [if_neg (by omega),Array.getElem?_eq_none (by omega)]
  have h1:=h.os
  have h2:=h.tape
  have h3:=h.output
  obtain ⟨wh,wt,wd,wo,wu⟩:=w
  obtain ⟨vh,vt,vd,vo,vu⟩:=w'
  simp only at hd hh h1 h2 h3
  subst h1 h2 h3
  show World.mk vh vt vd vo vu = World.mk (wh ++ vh.extract wh.size vh.size) vt (wd + (vd - wd)) vo vu
  rw [← hh,show wd + (vd - wd) = vd by omega]
theorem cmp_lays (w:World) (blk off size:Nat):CmpLays1 P 88 #[] encS cmpF blk off size w:=by
  intro m os dk _ x y
  have h:=c_cmp2.ok ((x.val:Int),((y.val:Int),())) (show ((0:Int) ≤ (x.val:Int) ∧ (x.val:Int) < 1024) ∧ (0:Int) ≤ (y.val:Int) ∧ (y.val:Int) < 1024 from ⟨⟨by omega,by have:=x.isLt; omega⟩,by omega,by have:=y.isLt; omega⟩)
    (fun _ => False) (sortWorld encS w blk off m dk os) [encS x,encS y] (fun _ hb => hb.elim) (RepL.cons (by unfold Rep; rfl) (RepL.cons (by unfold Rep; rfl) RepL.nil))
  refine h.mono ?_
  rintro e w' ⟨_,v,rfl,hf,I',_,_,_,hr⟩
  refine ⟨?_,frm_grow hf⟩
  have hv:v = .int .i64 (cmpF x y):=by
    have:Rep (E0 I') noU w' (.int .i64 (cmpL (lsI ((x.val:Int)).toNat) (lsI ((y.val:Int)).toNat))) v:=hr
    unfold Rep at this
    rw [Int.toNat_natCast,Int.toNat_natCast] at this
    exact this
  rw [hv]
theorem oneS:OneCell encS:=fun _ => rfl
theorem sort_frm {w:World} {blk n:Nat} {d:Array (Fin 1024)} {os:Array Obj} {cur:Array Value} {ty:TypeId} (hg:w.heap[blk]? = some (.cells cur ty (0,0))) :
    Frm (w.setRow blk (putCells encS 0 d cur)) (fun _ => False) (sortWorld encS w blk 0 n d os):=by
  have hh:(putRow encS (Sort.ahead w n) blk 0 d).heap = (w.setRow blk (putCells encS 0 d cur)).heap:=by
    apply Array.ext_getElem?
    intro k
    unfold putRow mapBlock World.setRow
    simp only [Array.getElem?_modify]
    by_cases hk:blk = k
    · subst hk
      simp only [if_true,show (Sort.ahead w n).heap = w.heap from rfl,hg,Option.map_some,onCells]
    · simp only [hk,if_false]; rfl
  refine ⟨rfl,rfl,rfl,?_,?_,fun b hb _ => ?_⟩
  · show _ ≤ ((putRow encS (Sort.ahead w n) blk 0 d).heap ++ os).size
    rw [hh,Array.size_append]; omega
  · show w.drawn ≤ w.drawn + n
    omega
  · show ((putRow encS (Sort.ahead w n) blk 0 d).heap ++ os)[b]? = _
    rw [hh,Array.getElem?_append_left hb]
def srtRen:Go.Shelf.Ren:=⟨fun | 6 => 87 | 15 => 124 | 14 => 123 | 28 => 154 | 29 => 155 | 20 => 146 | 21 => 147 | 22 => 148 | 23 => 149 | 24 => 150 | 25 => 151 | 26 => 152 | 27 => 153 | 46 => 163 | 47 => 164 | 48 => 165 | 49 => 166 | 50 => 167 | 57 => 180 | n => n,fun | 22 => 125 | 24 => 123 | 25 => 131 | 3 => 3 | 39 => 100 | 0 => 0 | 53 => 156 | 55 => 99 | 4 => 4 | 46 => 173 | 45 => 172 | 50 => 177 | 5 => 5 | 9 => 9 | 66 => 184 | 70 => 188 | 76 => 198 | 77 => 199 | n => n,fun | n => n⟩
theorem srtLays:Go.Proofs.SlLaysF.n6 Tryz.prog srtRen:={
  mixed:=by kernel_rfl
  f6:=⟨Tryz.f87.name,by decide,Tryz.func87.trans (congrArg some (by kernel_rfl))⟩
  f14:=⟨Tryz.f123.name,by decide,Tryz.func123.trans (congrArg some (by kernel_rfl))⟩
  f15:=Tryz.func124.trans (congrArg some (by kernel_rfl))
  f20:=⟨Tryz.f146.name,by decide,Tryz.func146.trans (congrArg some (by kernel_rfl))⟩
  f21:=⟨Tryz.f147.name,by decide,Tryz.func147.trans (congrArg some (by kernel_rfl))⟩
  f22:=⟨Tryz.f148.name,by decide,Tryz.func148.trans (congrArg some (by kernel_rfl))⟩
  f23:=⟨Tryz.f149.name,by decide,Tryz.func149.trans (congrArg some (by kernel_rfl))⟩
  f24:=⟨Tryz.f150.name,by decide,Tryz.func150.trans (congrArg some (by kernel_rfl))⟩
  f25:=⟨Tryz.f151.name,by decide,Tryz.func151.trans (congrArg some (by kernel_rfl))⟩
  f26:=⟨Tryz.f152.name,by decide,Tryz.func152.trans (congrArg some (by kernel_rfl))⟩
  f27:=⟨Tryz.f153.name,by decide,Tryz.func153.trans (congrArg some (by kernel_rfl))⟩
  f28:=Tryz.func154.trans (congrArg some (by kernel_rfl))
  f29:=Tryz.func155.trans (congrArg some (by kernel_rfl))
  f46:=⟨Tryz.f163.name,by decide,Tryz.func163.trans (congrArg some (by kernel_rfl))⟩
  f47:=Tryz.func164.trans (congrArg some (by kernel_rfl))
  f48:=Tryz.func165.trans (congrArg some (by kernel_rfl))
  f49:=⟨Tryz.f166.name,by decide,Tryz.func166.trans (congrArg some (by kernel_rfl))⟩
  f50:=⟨Tryz.f167.name,by decide,Tryz.func167.trans (congrArg some (by kernel_rfl))⟩
  f57:=⟨Tryz.f180.name,by decide,Tryz.func180.trans (congrArg some (by kernel_rfl))⟩
  t0:=Tryz.underlying0
  a0:=Tryz.isAgg0
  z0:=Tryz.sizeOf0
  v0:=Tryz.zeroValue0
  t3:=Tryz.underlying3
  a3:=Tryz.isAgg3
  z3:=Tryz.sizeOf3
  v3:=Tryz.zeroValue3
  t4:=Tryz.underlying4
  a4:=Tryz.isAgg4
  z4:=Tryz.sizeOf4
  v4:=Tryz.zeroValue4
  t5:=Tryz.underlying5
  a5:=Tryz.isAgg5
  z5:=Tryz.sizeOf5
  v5:=Tryz.zeroValue5
  t9:=Tryz.underlying9
  a9:=Tryz.isAgg9
  z9:=Tryz.sizeOf9
  v9:=Tryz.zeroValue9
  t22:=Tryz.underlying125
  a22:=Tryz.isAgg125
  z22:=Tryz.sizeOf125
  v22:=Tryz.zeroValue125
  a24:=Tryz.isAgg123
  z24:=Tryz.sizeOf123
  t25:=Tryz.underlying131
  a25:=Tryz.isAgg131
  z25:=Tryz.sizeOf131
  v25:=Tryz.zeroValue131
  t39:=Tryz.underlying100
  a39:=Tryz.isAgg100
  z39:=Tryz.sizeOf100
  v39:=Tryz.zeroValue100
  t45:=Tryz.underlying172
  a45:=Tryz.isAgg172
  z45:=Tryz.sizeOf172
  v45:=Tryz.zeroValue172
  t46:=Tryz.underlying173
  a46:=Tryz.isAgg173
  z46:=Tryz.sizeOf173
  v46:=Tryz.zeroValue173
  t50:=Tryz.underlying177
  a50:=Tryz.isAgg177
  z50:=Tryz.sizeOf177
  v50:=Tryz.zeroValue177
  t53:=Tryz.underlying156
  a53:=Tryz.isAgg156
  z53:=Tryz.sizeOf156
  v53:=Tryz.zeroValue156
  t55:=Tryz.underlying99
  a55:=Tryz.isAgg99
  z55:=Tryz.sizeOf99
  v55:=Tryz.zeroValue99
  t66:=Tryz.underlying184
  a66:=Tryz.isAgg184
  z66:=Tryz.sizeOf184
  v66:=Tryz.zeroValue184
  t70:=Tryz.underlying188
  a70:=Tryz.isAgg188
  z70:=Tryz.sizeOf188
  v70:=Tryz.zeroValue188
  t76:=Tryz.underlying198
  a76:=Tryz.isAgg198
  z76:=Tryz.sizeOf198
  v76:=Tryz.zeroValue198
  t77:=Tryz.underlying199
  a77:=Tryz.isAgg199
  z77:=Tryz.sizeOf199
  v77:=Tryz.zeroValue199 }
def intsOf:(t:Ty) → List t.den → List Int
  | .int _,l => l
  | _,_ => []
theorem sortS_nil:sortS [] = []:=by unfold sortS sortF; simp
def srtCon:Con:=fun args H base => match args with
  | [.own k,.fn g []] => match H k with
    | some (.row e t l) => if h:Nat.beq g 88 = true ∧ Ty.beq t tU = true then
        some { need:=some ((l.length:Int) < 4611686018427387904 ∧ ∀ x ∈ intsOf t l,0 ≤ x ∧ x < 1024),
               res:=.tup [],upd:=[(k,some (.row e tU (sortS (intsOf t l))))] } else none
    | _ => none
  | _ => none
theorem flat_ints:∀ {I:Nat → Prop} {w:World} {l:List Int} {xs:List Value},Flat I w tU l xs ↔ xs = l.map fun x => Value.int .u64 x
  | I,w,[],xs => Iff.rfl
  | I,w,d :: l,xs => by
    constructor
    · rintro ⟨a,b,rfl,h1,h2⟩
      rw [flat_ints.1 h2,show a = [Value.int .u64 d] from h1]
      rfl
    · rintro rfl
      exact ⟨[Value.int .u64 d],_,rfl,rfl,flat_ints.2 rfl⟩
theorem srt_core {H:Hp} {E:En} {U:Nat → Bool} {w:World} (hs:HSat w (Mof E H) E U H w) {k:Nat} {e:TypeId} (l:List Int) (hk:H k = some (.row e tU l)) (hlen:(l.length:Int) < 4611686018427387904) (hrng:∀ x ∈ l,0 ≤ x ∧ x < 1024) :
    Calls P 87 #[E.sv k,.func (.func 88) #[] #[]] w fun e' w' => ∃ v,e' = .returned v ∧ ∃ E',En.Le U U E E' w w' ∧ HSat w (Mof E H) E' U (apH H [(k,some (.row e tU (sortS l)))]) w' ∧ FreshI E E' H w ∧ Rep E' U w' (.tup []) v:=by
  obtain ⟨_,ys,hown,hfl,hsv⟩:=hs.ob k _ hk
  obtain ⟨hyl,hown⟩:=hown
  have hys:=flat_ints.1 hfl
  rcases hown with ⟨h3,hl0⟩ | ⟨b,cap,cur,h3,hbg,hgb,hnc,hcm,hcs,htake⟩
  · rw [h3]
    have l0:l = []:=List.length_eq_zero_iff.1 hl0
    refine (AnyF.slices_SortFunc_none (ρ:=srtRen) { srtLays with } none 0 _ w).mono ?_
    rintro e' w' ⟨rfl,rfl⟩
    refine ⟨_,rfl,E,En.Le.refl U E w',?_,FreshI.refl rfl H w',undef_rep E U w'⟩
    subst l0
    have eH:apH H [(k,some (.row e tU (sortS [])))] = H:=by
      funext j
      show (bif Nat.beq j k then _ else H j) = H j
      cases c:Nat.beq j k with
      | false => rfl
      | true => rw [Nat.eq_of_beq_eq_true c,hk,sortS_nil]; rfl
    exact HSat.congr eH.symm hs
  · have hgk:b = E.ρ k:=by
      rcases hsv with q | ⟨c2,q⟩
      · rw [q] at h3; cases h3
      · rw [q] at h3; cases h3; rfl
    subst hgk
    have hl:(Ob.row e tU l).live E k:=by show E.sv k ≠ _; rw [h3]; simp
    rw [h3]
    have hcs:cur.size = cap:=by rw [hcs]; show cap * 1 = cap; exact Nat.mul_one cap
    have htake:cur.toList.take l.length = ys:=by rw [← htake]; show _ = cur.toList.take (l.length * 1); rw [Nat.mul_one]
    have hnc2:List.length (α:=Int) l ≤ cap:=hnc
    let d:Array (Fin 1024):=(l.map finS).toArray
    have hd:d.size = l.length:=by show ((l.map finS).toArray).size = _; rw [List.size_toArray,List.length_map]
    have hcell:∀ j,j < d.size → cur[j]? = some (encS d[j]!):=fun j hj => by
      have hjl:j < l.length:=by rw [← hd]; exact hj
      have h1:(cur.toList.take l.length)[j]? = cur.toList[j]?:=List.getElem?_take_of_lt hjl
      rw [htake,hys,List.getElem?_map,List.getElem?_eq_getElem hjl] at h1
      rw [← Array.getElem?_toList,← h1]
      have h2:d[j]! = finS (l[j]):=by
        rw [getElem!_pos d j hj]
        show ((l.map finS).toArray)[j]'hj = _
        simp
      rw [h2]
      unfold encS
      rw [finS_val (hrng _ (List.getElem_mem hjl)).1 (hrng _ (List.getElem_mem hjl)).2]
      rfl
    have hH:Holds encS w (E.ρ k) 0 d:=fun j hj => by
      refine ⟨?_,?_⟩
      · unfold World.cell?
        simp only [hgb,Option.isSome_none,Nat.zero_add]
        exact hcell j hj
      · unfold World.frozen?
        simp only [hgb]
        simp
    have hcon:=Any.slices_SortFunc_total (ρ:=srtRen) srtLays encS oneS cmpF swoF 88 #[] (E.ρ k) 0 cap d w (entB_run (by kernel_rfl)) (cmp_lays w (E.ρ k) 0 d.size) hH (Array.getElem?_eq_some_iff.1 hgb).1 (by rw [hd]; omega)
      (fun x y h1 h2 => by rw [ltOf_F] at h1 h2; exact ltF_tot h1 h2)
    rw [hd] at hcon
    refine hcon.mono ?_
    rintro e' w' ⟨rfl,n,os,rfl⟩
    refine ⟨_,rfl,?_⟩
    have hsrt:(d.toList.mergeSort fun x y => !(ltOf cmpF) y x) = sortF (l.map finS):=rfl
    rw [hsrt]
    let d2:Array (Fin 1024):=(sortF (l.map finS)).toArray
    have hd2:d2.size = l.length:=by
      show ((sortF (l.map finS)).toArray).size = _
      rw [List.size_toArray,(sortF_perm _).length_eq,List.length_map]
    have hput:putCells encS 0 d2 cur = ((sortS l).map (fun x => Value.int .u64 x) ++ cur.toList.drop l.length).toArray:=by
      apply Array.ext_getElem?
      intro j
      have hlen2:((sortS l).map fun x => Value.int .u64 x).length = l.length:=by rw [List.length_map,sortS_len]
      unfold putCells
      rw [Array.getElem?_mapIdx]
      conv => rhs; rw [List.getElem?_toArray]
      by_cases hj:j < l.length
      · rw [List.getElem?_append_left (by rw [hlen2]; exact hj),Array.getElem?_eq_getElem (show j < cur.size by omega),Option.map_some,if_pos ⟨Nat.zero_le _,by omega⟩]
        have h2:d2[j]! = (sortF (l.map finS))[j]'(by rw [(sortF_perm _).length_eq,List.length_map]; exact hj):=by
          rw [getElem!_pos d2 j (by omega)]
          show ((sortF (l.map finS)).toArray)[j]'_ = _
          simp
        unfold sortS
        rw [Nat.sub_zero,h2,List.getElem?_map,List.getElem?_map,List.getElem?_eq_getElem (by rw [(sortF_perm _).length_eq,List.length_map]; exact hj)]
        rfl
      · rw [List.getElem?_append_right (by rw [hlen2]; omega),hlen2,List.getElem?_drop,show l.length + (j - l.length) = j by omega,Array.getElem?_toList]
        cases cur[j]? with
        | none => rfl
        | some y => rw [Option.map_some,if_neg (by omega)]
    obtain ⟨hle,hs1⟩:=hs.turn hk hl (putCells encS 0 d2 cur) (o':=.row e tU (sortS l)) (fun w1 hw1 hle => by
      refine ⟨(sortS l).map fun x => Value.int .u64 x,?_,flat_ints.2 rfl,?_⟩
      · show w1.ownsRow 0 e tU.size (E.sv k) (List.length (α:=Int) (sortS l)) _
        rw [sortS_len]
        refine ⟨by rw [List.length_map,sortS_len]; show _ = l.length * 1; omega,.inr ⟨E.ρ k,cap,putCells encS 0 d2 cur,h3,hbg,by rw [hw1]; exact setRow_heap w _ _ _ _ _ hgb,hnc,hcm,?_,?_⟩⟩
        · unfold putCells
          rw [Array.size_mapIdx,hcs]; show cap = cap * 1; omega
        · rw [hput]
          show (_:List Value).take (l.length * 1) = _
          rw [List.toList_toArray,Nat.mul_one]
          exact List.take_left' (by rw [List.length_map,sortS_len])
      · show _ ∨ ∃ cap,E.sv k = .slice (some ⟨E.ρ k,0,none⟩) (List.length (α:=Int) (sortS l)) cap
        rw [sortS_len]
        exact .inr ⟨cap,h3⟩)
    obtain ⟨hle2,hs2⟩:=hs1.still (sort_frm (n:=n) (os:=os) hgb) (I':=E.I) (fun b h => h) (fun b h => .inl h) (fun b hb => by
      have:=hs1.lt b hb
      exact Nat.lt_of_lt_of_le this (sort_frm (n:=n) (os:=os) (d:=d2) hgb).size)
    exact ⟨E,hle.trans hle2,hs2,FreshI.refl rfl H w,undef_rep E U _⟩
theorem srtConOk:ConOk P 87 srtCon:=by
  intro args H base eff he E U w vals hs hr hn hnd
  unfold srtCon at he
  split at he <;> try (cases he; done)
  rename_i k g
  split at he <;> try (cases he; done)
  rename_i e t l hk
  split at he <;> try (cases he; done)
  rename_i hb
  obtain ⟨b1,b2⟩:=hb
  have hg:=Nat.eq_of_beq_eq_true b1
  have ht:=Ty.beq_eq b2
  subst hg ht
  cases he
  have hnd' : (l.length:Int) < 4611686018427387904 ∧ ∀ x ∈ intsOf tU l,0 ≤ x ∧ x < 1024:=hnd
  unfold RepL at hr
  obtain ⟨v0,r,rfl,hr0,hr⟩:=hr
  unfold RepL at hr
  obtain ⟨v1,r,rfl,hr1,hr⟩:=hr
  unfold RepL at hr
  subst hr
  unfold Rep at hr0 hr1
  obtain ⟨hUk,rfl,_⟩:=hr0
  obtain ⟨vs,rfl,hvs⟩:=hr1
  unfold RepL at hvs
  subst hvs
  rw [apU_nil]
  exact srt_core hs (intsOf tU l) hk hnd'.1 hnd'.2
def c_sort:GC P:={ f:=87,con:=srtCon,ent:=by kernel_rfl,ok:=srtConOk }
end
end Go.MB
