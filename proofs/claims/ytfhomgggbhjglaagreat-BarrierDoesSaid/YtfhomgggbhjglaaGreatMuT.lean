/- slices.Insert of one permit ahead of the last one: what it does to memory. -/
import Derived.Test.YtfhomgggbhjglaaGreatMuS
import Derived.Shelf.Spec.SlicesInsertGrow
namespace Go.Lib
theorem fD{P:Program}(w:World) (dT sT ty elem:TypeId) (g o dLen dCap:Nat) (a:Addr) (sLen sCap:Nat) (cur:Array Value) (t:TypeId) (cs:List Value) (sz:Nat)
  (hu:P.underlying dT=some (.slice elem)) (hs:(P.info? elem).map (·.size)=some sz)
  (hg:w.heap[g]? = some (.cells cur t (0,0))) (hn:cs.length=Nat.min sLen dLen*sz)
  (hsrc:∀j v,cs[j]? = some v->w.cell? (a.add j)=some v) (hfit:o+cs.length<=cur.size) (h1:∀v∈cs,v.oneCell'=true) :
  (Builtin.copy_ #[dT,sT] ty #[.slice (some ⟨g,o,none⟩) dLen dCap,.slice (some a) sLen sCap]).run P w =
   .ok (goInt (Nat.min sLen dLen)) (w.setRow g (cur.toList.take o++cs++cur.toList.drop (o+cs.length)).toArray):=by
 have hl:=run_loadCells_list (P:=P) w a cs hsrc
 have hst:=run_storeCells_at P g o t cs 0 cur w hg (by simpa using hfit) h1
 cases hq:P.info? elem with
 |none=>simp[hq] at hs
 |some i=>
  have hi:i.size=sz:=by simpa[hq] using hs
  simp[Builtin.copy_,run_underlying hu,Builtin.lenOf,Builtin.firstCells,sizeOf,typeInfo,hq,hi,<- hn,hl,hst]
end Go.Lib
namespace Go.Proofs
open Go.Shelf Go.RowKit Go.Lib Go.Sx
set_option maxHeartbeats 4000000 in
set_option maxRecDepth 100000 in
theorem ins_shift(b n c i vb vc:Nat)(cur vcur:Array Value)(tA tB:TypeId)(w:World)(hi:i<n)(hroom:n+1<=c)(hc63:c<=9223372036854775807)(hvb:vb≠b)
  (hb:w.heap[b]? = some (.cells cur tB (0,0))) (hcs:cur.size=c*4) (hv:w.heap[vb]? = some (.cells vcur tA (0,0))) (hvs:4<=vcur.size)
  (h1:∀v∈(cur.toList.drop (i*4)).take ((n - i)*4),v.oneCell'=true) (h1v:∀v∈vcur.toList.take 4,v.oneCell'=true) :
  Calls Tryz.prog 162 #[.slice (some ⟨b,0,none⟩) n c,.int .i64 i,.slice (some ⟨vb,0,none⟩) 1 vc] w fun e w' =>
   e = .returned (.slice (some ⟨b,0,none⟩) (n+1) c) /\
   w'=(w.drew.setRow b (cur.toList.take ((i+1)*4)++(cur.toList.drop (i*4)).take ((n - i)*4)++cur.toList.drop ((n+1)*4)).toArray).setRow b (cur.toList.take (i*4)++vcur.toList.take 4++(cur.toList.drop (i*4)).take ((n - i)*4)++cur.toList.drop ((n+1)*4)).toArray:=by
 have u29:Tryz.prog.underlying 26=some (.slice 49):=by kernel_rfl
 have u3:Tryz.prog.underlying 3=some (.int .i64):=by kernel_rfl
 have hsz:(Tryz.prog.info? 49).map (·.size)=some 4:=by kernel_rfl
 have z44:∀w,(Go.sizeOf 49).run Tryz.prog w = .ok 4 w:=fun w=>by
  cases hq:Tryz.prog.info? 49 with
  |none=>rw[hq] at hsz;cases hsz
  |some ie=>
   have:ie.size=4:=by rw[hq] at hsz;simpa using hsz
   simp[Go.sizeOf,typeInfo,hq,this]
 have mixed:Tryz.prog.follows .mixedOrders=true:=by kernel_rfl
 have hz2:¬ ((i:Int)=(n:Int)):=by omega
 have hov:∀off lb cb,(callFunc 178 #[.slice (some ⟨vb,0,none⟩) 1 vc,.slice (some ⟨b,off,none⟩) lb cb]).run Tryz.prog w = .ok (.value (.bool false)) w:=fun off lb cb=>by
  rw[run_callFunc_extern Tryz.func178 (by kernel_rfl) (by kernel_rfl) (by kernel_rfl) (e:=Extern.SlicesOverlaps.overlaps #[26,26] #[4]) (by kernel_rfl),
   Lib.run_overlaps_apart w 26 4 49 u29 4 z44 ⟨vb,0,none⟩ ⟨b,off,none⟩ 1 vc lb cb hvb tA tB vcur.size cur.size (by simp[World.shape?,hv]) (by simp[World.shape?,hb]) (by omega) (by simp[World.frozen?,hv]) (by simp[World.frozen?,hv])]
  rfl
 have hdl:((cur.toList.drop (i*4)).take ((n - i)*4)).length=(n - i)*4:=by simp[hcs];omega
 have hvl:(vcur.toList.take 4).length=4:=by simp;omega
 have hw1:IntKind.i64.wrap ((i:Int)+1)=(i:Int)+1:=by rw[IntKind.wrap_i64];omega
 have hw2:IntKind.i64.wrap ((n:Int)+1)=(n:Int)+1:=by rw[IntKind.wrap_i64];omega
 have hb1:(0:Int)<=(i:Int)+1:=by omega
 have hin:i<=n:=by omega
 have htn:((i:Int)+1).toNat=i+1:=by omega
 have htn2:((n:Int)+1).toNat=n+1:=by omega
 have hb2:¬ (c=i+1):=by omega
 have hb3:(i:Int)<=(n:Int)+1:=by omega
 have hb4:¬ (c=i):=by omega
 have hb5:¬ ((c:Int)<(n:Int)+1):=by omega
 have hmn:Nat.min (n+1 - i) (n - i)=n - i:=by simp only[Nat.min_def];split<;>omega
 have hmn2:Nat.min 1 (n+1 - i)=1:=by simp only[Nat.min_def];split<;>omega
 obtain⟨cs,hcse⟩:∃cs,cs=(cur.toList.drop (i*4)).take ((n - i)*4):=⟨_,rfl⟩
 obtain⟨vs,hvse⟩:∃vs,vs=vcur.toList.take 4:=⟨_,rfl⟩
 obtain⟨cur1,hcur1⟩:∃c1,c1=(cur.toList.take ((i+1)*4)++cs++cur.toList.drop ((n+1)*4)).toArray:=⟨_,rfl⟩
 obtain⟨cur2,hcur2⟩:∃c2,c2=(cur.toList.take (i*4)++vs++cs++cur.toList.drop ((n+1)*4)).toArray:=⟨_,rfl⟩
 rw[<- hcse,<- hvse,<- hcur1,<- hcur2]
 rw[<- hcse] at hdl h1
 rw[<- hvse] at hvl h1v
 have hcp1:∀ty dc sc,(Builtin.copy_ #[26,26] ty #[.slice (some ⟨b,(i+1)*4,none⟩) (n - i) dc,.slice (some ⟨b,i*4,none⟩) (n+1 - i) sc]).run Tryz.prog w.drew = .ok (goInt (n - i:Nat)) (w.drew.setRow b cur1):=fun ty dc sc=>by
  have h:=fD (P:=Tryz.prog) w.drew 26 26 ty 49 b ((i+1)*4) (n - i) dc ⟨b,i*4,none⟩ (n+1 - i) sc cur tB cs 4 u29 hsz hb (by rw[hmn];exact hdl)
   (fun j v hj=>by
    rw[Addr.add_lit]
    show (w.drew.cell? _)=_
    rw[hcse,List.getElem?_take] at hj
    split at hj
    ·rw[List.getElem?_drop] at hj
     simp only[World.cell?]
     have:w.drew.heap[b]? = some (.cells cur tB (0,0)):=hb
     simp[this]
     rw[<- hj];simp
    ·cases hj)
   (by rw[hdl,hcs,<- Nat.add_mul];exact Nat.mul_le_mul_right _ (by omega)) h1
  rw[hmn] at h
  rw[h,hdl,<- Nat.add_mul,show i+1+(n - i)=n+1 by omega,<- hcur1]
 go_enter Tryz.func162,Tryz.ntmps162
 go_wp2_with (simp only[hov])
 go_region_law_o (refine step_copy_runI rfl _ _ 26 26 rfl _ _ (by simp[Act.eval,Act.put]) (by simp[Act.eval,Act.put]) (hcp1 _ _ _) ?_)
 have hg1:(w.drew.setRow b cur1).heap[b]? = some (.cells cur1 tB (0,0)):=setRow_heap w.drew b _ _ _ _ hb
 have hvr:(w.drew.setRow b cur1).heap[vb]? = some (.cells vcur tA (0,0)):=by rw[setRow_other w.drew b vb _ hvb];exact hv
 have hc1s:cur1.size=c*4:=by
  rw[hcur1,List.size_toArray]
  simp only[List.length_append,List.length_take,List.length_drop,Array.length_toList,hdl,hcs]
  omega
 have hcp2:∀(W:World),W.heap=(w.drew.setRow b cur1).heap->∀ty dc,(Builtin.copy_ #[26,26] ty #[.slice (some ⟨b,i*4,none⟩) (n+1 - i) dc,.slice (some ⟨vb,0,none⟩) 1 vc]).run Tryz.prog W = .ok (goInt (1:Nat)) (W.setRow b cur2):=fun W hW ty dc=>by
  have h:=fD (P:=Tryz.prog) W 26 26 ty 49 b (i*4) (n+1 - i) dc ⟨vb,0,none⟩ 1 vc cur1 tB vs 4 u29 hsz (by rw[hW];exact hg1) (by rw[hmn2];exact hvl)
   (fun j v hj=>by
    rw[Addr.add_lit]
    rw[hvse,List.getElem?_take] at hj
    split at hj
    ·simp only[World.cell?,hW,hvr]
     rw[<- hj];simp
    ·cases hj)
   (by rw[hvl,hc1s];omega) h1v
  rw[hmn2] at h
  rw[h,hvl]
  congr 2
  rw[hcur1,hcur2]
  have ht:(cur.toList.take ((i+1)*4)).length=(i+1)*4:=by
   rw[List.length_take,Array.length_toList,hcs]
   exact Nat.min_eq_left (Nat.mul_le_mul_right _ (by omega))
  congr 1
  have e1:((cur.toList.take ((i+1)*4)++cs++cur.toList.drop ((n+1)*4))).take (i*4)=cur.toList.take (i*4):=by
   rw[List.append_assoc,List.take_append_of_le_length (by rw[ht];omega),List.take_take,Nat.min_eq_left (by omega)]
  have e2:((cur.toList.take ((i+1)*4)++cs++cur.toList.drop ((n+1)*4))).drop (i*4+4)=cs++cur.toList.drop ((n+1)*4):=by
   rw[List.append_assoc]
   exact List.drop_left' (by rw[ht];omega)
  rw[e1,e2]
  simp only[List.append_assoc]
 go_wp2_with (at_builtin;refine wpList_copy_runI _ rfl _ _ 26 26 rfl _ _ rfl rfl (hcp2 _ rfl _ _) ?_)
 go_ret
 exact⟨rfl,by simp only[hcur1,hcur2,hcse,hvse,List.append_assoc]⟩
set_option maxHeartbeats 4000000 in
set_option maxRecDepth 100000 in
theorem ins_grow(b n c i vb vc:Nat)(cur vcur:Array Value)(tA tB:TypeId)(w:World)(hi:i<n)(hroom:c<n+1)(hnc:n<=c)(hbig:(n+1)*32<=140737488355328)
  (hb:w.heap[b]? = some (.cells cur tB (0,0))) (hcs:cur.size=c*4) (hv:w.heap[vb]? = some (.cells vcur tA (0,0))) (hvs:4<=vcur.size)
  (h1:∀v∈(cur.toList.drop (i*4)).take ((n - i)*4),v.oneCell'=true) (h1v:∀v∈vcur.toList.take 4,v.oneCell'=true) :
  Calls Tryz.prog 162 #[.slice (some ⟨b,0,none⟩) n c,.int .i64 i,.slice (some ⟨vb,0,none⟩) 1 vc] w fun e w' =>
   ∃ (G:Nat) (cur2:Array Value),e = .returned (.slice (some ⟨w.heap.size,0,none⟩) (n+1) G)/\n+1<=G/\G<=9223372036854775807/\cur2.size=G*4 /\
    cur2.toList.take ((n+1)*4)=cur.toList.take (i*4)++vcur.toList.take 4++(cur.toList.drop (i*4)).take ((n - i)*4) /\
    w'.heap[w.heap.size]? = some (.cells cur2 49 (0,0))/\Grows w w':=by
 have u29:Tryz.prog.underlying 26=some (.slice 49):=by kernel_rfl
 have u3:Tryz.prog.underlying 3=some (.int .i64):=by kernel_rfl
 have hsz:(Tryz.prog.info? 49).map (·.size)=some 4:=by kernel_rfl
 have hby:(Tryz.prog.info? 49).map (·.bytes)=some 32:=by kernel_rfl
 have hze:((Tryz.prog.info? 49).bind (·.zero)).map (·.cells.size)=some 4:=by kernel_rfl
 obtain⟨ie,hie,hi1,hi2,z,hz,hzs⟩:∃ie,Tryz.prog.info? 49=some ie/\ie.size=4/\ie.bytes=32/\∃z,ie.zero=some z/\z.cells.size=4:=by
  cases hq:Tryz.prog.info? 49 with
  |none=>rw[hq] at hsz;cases hsz
  |some ie=>
   rw[hq] at hsz hby hze
   refine⟨ie,rfl,by simpa using hsz,by simpa using hby,?_⟩
   cases hq2:ie.zero with
   |none=>simp[hq2] at hze
   |some z=>exact⟨z,rfl,by simpa[hq2] using hze⟩
 have mixed:Tryz.prog.follows .mixedOrders=true:=by kernel_rfl
 have hz2:¬ ((i:Int)=(n:Int)):=by omega
 obtain⟨cs,hcse⟩:∃cs,cs=(cur.toList.drop (i*4)).take ((n - i)*4):=⟨_,rfl⟩
 obtain⟨vs,hvse⟩:∃vs,vs=vcur.toList.take 4:=⟨_,rfl⟩
 have hdl:cs.length=(n - i)*4:=by rw[hcse];simp[hcs];omega
 have hvl:vs.length=4:=by rw[hvse];simp;omega
 rw[<- hcse,<- hvse]
 rw[<- hcse] at h1
 rw[<- hvse] at h1v
 have hlt:b<w.heap.size:=(Array.getElem?_eq_some_iff.1 hb).1
 have hltv:vb<w.heap.size:=(Array.getElem?_eq_some_iff.1 hv).1
 obtain⟨olds,holds'⟩:∃o,o=cur.toList.take (i*4):=⟨_,rfl⟩
 rw[<- holds']
 have hol:olds.length=i*4:=by
  rw[holds',List.length_take,Array.length_toList,hcs]
  exact Nat.min_eq_left (Nat.mul_le_mul_right _ (by omega))
 have hold:(Builtin.firstCells ie.size i (.slice (some ⟨b,0,none⟩) i c)).run Tryz.prog w.drew = .ok olds.toArray w.drew:=by
  rw[hi1]
  show (loadCells _ (i*4)).run _ _=_
  have h:=run_loadCells_list (P:=Tryz.prog) w.drew ⟨b,0,none⟩ olds (fun j v hj=>by
   rw[Addr.add_lit,Nat.zero_add]
   rw[holds',List.getElem?_take] at hj
   split at hj
   ·simp only[World.cell?]
    have:w.drew.heap[b]? = some (.cells cur tB (0,0)):=hb
    simp[this]
    rw[<- hj];simp
   ·cases hj)
  rw[hol] at h
  exact h
 obtain⟨G,hG⟩:∃G,G=grownCap w (n+1) c 49:=⟨_,rfl⟩
 have hGn:n+1<=G:=by rw[hG];exact grownCap_ge w _ _ _
 have hG63:G<=9223372036854775807:=by
  have:=grownCap_le_maxLen w (n+1) c 49 (by unfold maxLen;omega)
  rw[<- hG] at this
  unfold maxLen at this
  omega
 have hkk:(n:Int)+1 - (i:Int)=((n+1 - i:Nat):Int):=by omega
 have hik:i+(n+1 - i)=n+1:=by omega
 obtain⟨ROW,hROW⟩:∃ROW:Array Value,ROW=olds.toArray++Builtin.zeroCells z.cells (n+1 - i)++Builtin.zeroCells z.cells (G - (n+1)):=⟨_,rfl⟩
 have hrz:∀ty,(Builtin.append_ #[26,3] ty #[.slice (some ⟨b,0,none⟩) i c,.int .i64 ((n:Int)+1 - (i:Int))]).run Tryz.prog w =
   .ok (.slice (some ⟨w.heap.size,0,none⟩) (n+1) G) (w.drew.alloc (.cells ROW 49)):=fun ty=>by
  have h:=Lib.run_append_grow_zeros w 26 3 ty 49 ie z .i64 .i64 u29 u3 hie hz (some ⟨b,0,none⟩) i c olds hold (n+1 - i) (by omega) (by omega) (by omega) (by omega) (by rw[hi2];omega) (by rw[hi2,hik];exact growslice_fits hroom hbig)
  rw[hik,<- hG,<- hROW] at h
  rw[hkk]
  exact h
 have hRs:ROW.size=G*4:=by
  rw[hROW]
  simp only[Array.size_append,List.size_toArray,hol,Builtin.zeroCells,Array.size_map,Array.size_range,hzs]
  omega
 obtain⟨row1,hrow1⟩:∃r,r=(ROW.toList.take (i*4)++vs++ROW.toList.drop (i*4+4)).toArray:=⟨_,rfl⟩
 obtain⟨row2,hrow2⟩:∃r,r=(row1.toList.take ((i+1)*4)++cs++row1.toList.drop ((n+1)*4)).toArray:=⟨_,rfl⟩
 have hr1s:row1.size=G*4:=by
  rw[hrow1,List.size_toArray]
  simp only[List.length_append,List.length_take,List.length_drop,Array.length_toList,hvl,hRs]
  omega
 obtain⟨W1,hW1⟩:∃W1,W1=w.drew.alloc (.cells ROW 49):=⟨_,rfl⟩
 rw[<- hW1] at hrz
 have g0:Grows w W1:=by
  rw[hW1]
  exact⟨rfl,rfl,rfl,by simp,Nat.le_succ _,fun b hb=>Below.heap_alloc w.drew _ b hb⟩
 have hN0:W1.heap[w.heap.size]? = some (.cells ROW 49 (0,0)):=by
  rw[hW1]
  exact heap_alloc_new w.drew _
 have hmn2:Nat.min 1 (n+1 - i)=1:=by simp only[Nat.min_def];split<;>omega
 have hmn:Nat.min (n - i) (n - i)=n - i:=Nat.min_self _
 have hbN:b≠w.heap.size:=by omega
 have hvN:vb≠w.heap.size:=by omega
 have hcpA:∀(W:World),W.heap=W1.heap->∀ty dc,(Builtin.copy_ #[26,26] ty #[.slice (some ⟨w.heap.size,i*4,none⟩) (n+1 - i) dc,.slice (some ⟨vb,0,none⟩) 1 vc]).run Tryz.prog W = .ok (goInt (1:Nat)) (W.setRow w.heap.size row1):=fun W hW ty dc=>by
  have h:=fD (P:=Tryz.prog) W 26 26 ty 49 w.heap.size (i*4) (n+1 - i) dc ⟨vb,0,none⟩ 1 vc ROW 49 vs 4 u29 hsz (by rw[hW];exact hN0) (by rw[hmn2];exact hvl)
   (fun j v hj=>by
    rw[Addr.add_lit]
    rw[hvse,List.getElem?_take] at hj
    split at hj
    ·simp only[World.cell?,hW,g0.block _ hltv,hv]
     rw[<- hj];simp
    ·cases hj)
   (by rw[hvl,hRs];omega) h1v
  rw[hmn2] at h
  rw[h,hvl,<- hrow1]
 have hN1:(W1.setRow w.heap.size row1).heap[w.heap.size]? = some (.cells row1 49 (0,0)):=setRow_heap W1 _ _ _ _ _ hN0
 have hb1' : (W1.setRow w.heap.size row1).heap[b]? = some (.cells cur tB (0,0)):=by rw[setRow_other W1 _ _ _ hbN,g0.block _ hlt];exact hb
 have hcpB:∀(W:World),W.heap=(W1.setRow w.heap.size row1).heap->∀ty dc sc,(Builtin.copy_ #[26,26] ty #[.slice (some ⟨w.heap.size,(i+1)*4,none⟩) (n - i) dc,.slice (some ⟨b,i*4,none⟩) (n - i) sc]).run Tryz.prog W = .ok (goInt (n - i:Nat)) (W.setRow w.heap.size row2):=fun W hW ty dc sc=>by
  have h:=fD (P:=Tryz.prog) W 26 26 ty 49 w.heap.size ((i+1)*4) (n - i) dc ⟨b,i*4,none⟩ (n - i) sc row1 49 cs 4 u29 hsz (by rw[hW];exact hN1) (by rw[hmn];exact hdl)
   (fun j v hj=>by
    rw[Addr.add_lit]
    rw[hcse,List.getElem?_take] at hj
    split at hj
    ·rw[List.getElem?_drop] at hj
     simp only[World.cell?,hW,hb1']
     rw[<- hj];simp
    ·cases hj)
   (by rw[hdl,hr1s,<- Nat.add_mul];exact Nat.mul_le_mul_right _ (by omega)) h1
  rw[hmn] at h
  rw[h,hdl,<- Nat.add_mul,show i+1+(n - i)=n+1 by omega,<- hrow2]
 have hfin:row2.size=G*4/\row2.toList.take ((n+1)*4)=olds++vs++cs:=by
  have ht:(row1.toList.take ((i+1)*4)).length=(i+1)*4:=by
   rw[List.length_take,Array.length_toList,hr1s]
   exact Nat.min_eq_left (Nat.mul_le_mul_right _ (by omega))
  have e0:ROW.toList.take (i*4)=olds:=by
   rw[hROW]
   simp only[Array.toList_append,List.toList_toArray,List.append_assoc]
   exact List.take_left' hol
  have e1:row1.toList.take ((i+1)*4)=olds++vs:=by
   rw[hrow1,List.toList_toArray,e0]
   exact List.take_left' (by rw[List.length_append,hol,hvl];omega)
  constructor
  ·rw[hrow2,List.size_toArray]
   simp only[List.length_append,ht,hdl,List.length_drop,Array.length_toList,hr1s]
   omega
  ·rw[hrow2,List.toList_toArray,e1]
   exact List.take_left' (by rw[List.length_append,List.length_append,hol,hvl,hdl];omega)
 have hz3:(c:Int)<(n:Int)+1:=by omega
 have hw1:IntKind.i64.wrap ((i:Int)+1)=(i:Int)+1:=by rw[IntKind.wrap_i64];omega
 have hw2:IntKind.i64.wrap ((n:Int)+1)=(n:Int)+1:=by rw[IntKind.wrap_i64];omega
 have hw3:IntKind.i64.wrap ((n:Int)+1 - i)=(n:Int)+1 - i:=by rw[IntKind.wrap_i64];omega
 have hb1:(0:Int)<=(i:Int)+1:=by omega
 have hin:i<=n:=by omega
 have htn:((i:Int)+1).toNat=i+1:=by omega
 have hb3:(i:Int)<=(n:Int):=by omega
 have hGi:¬ (G=i):=by omega
 have hGim:¬ (G=i+1):=by omega
 have hci:¬ (c=i):=by omega
 subst hW1
 have hcpA':=hcpA ((w.alloc (.cells ROW 49)).drew) rfl
 have hcpB':=hcpB (((w.alloc (.cells ROW 49)).drew.setRow w.heap.size row1).drew) rfl
 clear hkk hik hold hROW hG hRs hrow1 hrow2 hr1s holds' hcse hvse
 go_enter Tryz.func162,Tryz.ntmps162
 go_wp2_with (first
  |(at_builtin;refine Lib.wpList_append_run _ rfl _ _ _ _ rfl _ _ rfl rfl _ _ (hrz _) ?_)
  |(at_builtin;refine wpList_copy_runI _ rfl _ _ 26 26 rfl _ _ rfl rfl (hcpA' _ _) ?_))
 go_region_law_o (refine step_copy_runI rfl _ _ 26 26 rfl _ _ (by simp[Act.eval,Act.put]) (by simp[Act.eval,Act.put]) (hcpB' _ _ _) ?_)
 go_wp2
 go_ret
 have hfr:Grows w ((((w.drew.alloc (.cells ROW 49)).setRow w.heap.size row1).drew).setRow w.heap.size row2):=by
  refine⟨rfl,rfl,rfl,by simp,Nat.le_trans (Nat.le_succ _) (Nat.le_succ _),fun x hx=>?_⟩
  rw[setRow_other _ _ _ _ (by omega)]
  show ((w.drew.alloc (.cells ROW 49)).setRow w.heap.size row1).heap[x]? = _
  rw[setRow_other _ _ _ _ (by omega)]
  exact g0.block x hx
 exact⟨G,row2,rfl,hGn,hG63,hfin.1,hfin.2,setRow_heap _ _ _ _ _ _ hN1,hfr⟩
end Go.Proofs
namespace Go.MB
open Go Go.Sx Go.Proofs Go.RowKit
set_option linter.unusedVariables false
set_option linter.unusedSimpArgs false
noncomputable section
def insCon:Con:=fun args H base=>match args with
 | [.own k,.int .i64 i,.own kv]=>match H k,H kv with
  |some (.row e t l),some (.row e' t' vs)=>if h:((Nat.beq e 49=true/\Nat.beq e' 49=true)/\Nat.beq k kv=false)/\(Ty.beq t tPm=true/\Ty.beq t' tPm=true) then
    some { need:=some (0<=i/\i<l.length/\vs.length=1/\(l.length+1)*32<=140737488355328),res:=.own base,upd:=[(base,some (.row 49 tPm ((show List tPm.den from (Ty.beq_eq h.2.1) ▸ l).take i.toNat++(show List tPm.den from (Ty.beq_eq h.2.2) ▸ vs)++(show List tPm.den from (Ty.beq_eq h.2.1) ▸ l).drop i.toNat))),(k,none)],news:=[base] } else none
  |_,_=>none
 |_=>none
theorem insConOk:ConOk P 162 insCon:=by
 intro args H base eff he E U w zM hs hr hn hnd
 unfold insCon at he
 split at he<;>try (cases he;done)
 rename_i k i kv
 split at he<;>try (cases he;done)
 rename_i e t l e' t' vs hk hkv
 split at he<;>try (cases he;done)
 rename_i hb
 obtain⟨⟨⟨b1,b2⟩,b3⟩,b4,b5⟩:=hb
 have he1:=nbT b1
 have he2:=nbT b2
 have hne:k≠kv:=Nat.ne_of_beq_eq_false b3
 have ht1:=Ty.beq_eq b4
 have ht2:=Ty.beq_eq b5
 subst he1 he2 ht1 ht2
 cases he
 obtain⟨h0,h1,hv1,hbig⟩:0<=i/\i<l.length/\vs.length=1/\(l.length+1)*32<=140737488355328:=hnd
 unfold zA at hr
 obtain⟨v0,r,rfl,hr0,hr⟩:=hr
 unfold zA at hr
 obtain⟨v1,r,rfl,hr1,hr⟩:=hr
 unfold zA at hr
 obtain⟨v2,r,rfl,hr2,hr⟩:=hr
 unfold zA at hr
 subst hr
 unfold Rep at hr0 hr1 hr2
 obtain⟨hUk,rfl,_⟩:=hr0
 subst hr1
 obtain⟨hUv,rfl,_⟩:=hr2
 obtain⟨_,ys,hown,hfl,hsv⟩:=hs.ob k _ hk
 obtain⟨_,zs,hown',hfl',hsv'⟩:=hs.ob kv _ hkv
 replace hown:=hown.plain (by decide)
 replace hown':=hown'.plain (by decide)
 have hown0:=hown
 obtain⟨hyl,hown⟩:=hown
 obtain⟨hzl,hown'⟩:=hown'
 rcases hown with⟨_,hl0⟩ |⟨g,cap,cur,h3,hbg,hg,hnc,hcm,hcs,htake⟩
 ·omega
 rcases hown' with⟨_,hl0⟩ |⟨g',cap',cur',h3',hbg',hg',hnc',hcm',hcs',htake'⟩
 ·omega
 have hgk:g=E.ρ k:=by
  rcases hsv with q |⟨c2,q⟩
  ·rw[q] at h3;cases h3
  ·rw[q] at h3;cases h3;rfl
 have hgv:g'=E.ρ kv:=by
  rcases hsv' with q |⟨c2,q⟩
  ·rw[q] at h3';cases h3'
  ·rw[q] at h3';cases h3';rfl
 subst hgk hgv
 have hlk:jF E H k:=⟨_,hk,by show E.sv k≠_;rw[h3];simp⟩
 have hlv:jF E H kv:=⟨_,hkv,by show E.sv kv≠_;rw[h3'];simp⟩
 have hρ:E.ρ kv≠E.ρ k:=fun q=>hne (hs.inj _ _ hlk hlv q.symm)
 have hid:U base=false:=hn base (by simp)
 have hkb:k≠base:=fun q=>by rw[q,hid] at hUk;cases hUk
 have hImm:=hs.imm k hlk
 obtain⟨j,rfl⟩:∃j:Nat,i=j:=⟨i.toNat,by omega⟩
 have hjn:j<l.length:=by omega
 have hsz:tPm.size=4:=rfl
 rw[hsz] at hcs hcs' hyl hzl htake htake'
 have hys:(cur.toList.drop (j*4)).take ((l.length - j)*4)=ys.drop (j*4):=by
  rw[<- htake,List.drop_take,<- Nat.sub_mul]
 have hzs:cur'.toList.take 4=zs:=by
  rw[<- htake',hv1,Nat.one_mul]
 have hyt:cur.toList.take (j*4)=ys.take (j*4):=by
  rw[<- htake,List.take_take,Nat.min_eq_left (Nat.mul_le_mul_right _ (Nat.le_of_lt hjn))]
 have one1:∀v∈ys.drop (j*4),v.oneCell'=true:=fun v hv=>zZ.one hfl v (List.mem_of_mem_drop hv)
 have one2:∀v∈zs,v.oneCell'=true:=fun v hv=>zZ.one hfl' v hv
 have hflN:zZ E.I w tPm (l.take j++vs++l.drop j) (ys.take (j*4)++zs++ys.drop (j*4)):=by
  have a:=hfl.take j
  have b:=hfl.dropN j
  rw[hsz] at a b
  exact (a.append hfl').append b
 have hll:(l.take j++vs++l.drop j).length=l.length+1:=by
  simp only[List.length_append,List.length_take,List.length_drop];omega
 rw[h3,h3',hv1]
 have hsd:=hs.drop k
 -- what both ways come to
 have key:∀(w' : World)(b:Nat)(G:Nat)(cur2:Array Value),Frm w (Mof E H) w'->w.heap.size<=w'.heap.size->(∀x,x≠E.ρ k->x<w.heap.size->w'.heap[x]? = w.heap[x]?)->(b=E.ρ k\/w.heap.size<=b)->w'.heap[b]? = some (.cells cur2 49 (0,0))->l.length+1<=G->G<=maxLen->cur2.size=G*4 ->
   cur2.toList.take ((l.length+1)*4)=ys.take (j*4)++zs++ys.drop (j*4) ->
   ∃E',En.Le U (apU U [base]) E E' w w'/\HSat w (Mof E H) E' (apU U [base]) (apH H [(base,some (.row 49 tPm (l.take j++vs++l.drop j))),(k,none)]) w'/\vZ E E' H w/\Rep E' (apU U [base]) w' (.own base) (.slice (some ⟨b,0,none⟩) (l.length+1) G):=by
  intro w' b G cur2 hfr hsz' hblk hbk hb2 hG hGm hG4 hcc
  have hle:=qM (H:=H) hs hid (w':=w') (fun x hx=>hblk x (fun q=>hImm (q ▸ hx)) (hs.lt x hx)) b (.slice (some ⟨b,0,none⟩) (l.length+1) G)
  refine⟨_,hle,?_,fun x hx=>.inl hx,?_⟩
  ·refine HSat.add' hsd hid hfr hsz' rfl hle ?_ ?_ ⟨ys.take (j*4)++zs++ys.drop (j*4),?_,zZ.mono hle.imm hle.heap _ _ _ hflN,.inr ⟨G,by simp only[En.setRow,if_true];rw[hll]⟩⟩
   ·intro x hx
    obtain⟨hxk,hx'⟩:=HSat.dropNe hx
    exact hblk _ (fun q=>hxk (hs.inj x k hx' hlk q)) (hs.jV hx')
   ·intro _
    refine⟨fun x hx=>?_,?_,?_⟩
    ·obtain⟨hxk,hx'⟩:=HSat.dropNe hx
     simp only[En.setRow,if_true]
     rcases hbk with q |q
     ·rw[q];exact fun q' =>hxk (hs.inj x k hx' hlk q')
     ·have:=hs.jV hx';omega
    ·simp only[En.setRow,if_true]
     rcases hbk with q |q
     ·rw[q];exact hImm
     ·exact fun q' =>by have:=hs.lt _ q';omega
    ·simp only[En.setRow,if_true]
     rcases hbk with q |q
     ·rw[q];exact hs.mine k hlk
     ·exact .inr q
   ·refine ownR_of ⟨hflN.length,.inr ⟨b,G,cur2,by simp only[En.setRow,if_true];rw[hll],Nat.zero_le _,hb2,by rw[hll];exact hG,hGm,hG4,?_⟩⟩
    rw[hll];exact hcc
  ·unfold Rep
   exact⟨by rw[gD];simp,by simp[En.setRow],_,_,_,rfl⟩
 have hf:=hs.frame
 by_cases hroom:l.length+1<=cap
 ·have hc63:cap<=9223372036854775807:=by unfold maxLen at hcm;omega
  refine (ins_shift (E.ρ k) l.length cap j (E.ρ kv) cap' cur cur' 49 49 w hjn hroom hc63 hρ hg hcs hg' (by omega) (by rw[hys];exact one1) (by rw[hzs];exact one2)).mono ?_
  rintro e w' ⟨rfl,rfl⟩
  refine⟨_,rfl,?_⟩
  rw[hys,hzs,hyt]
  rw[setRow_setRow]
  refine key _ (E.ρ k) cap _ ?_ (by simp) (fun x hx _=>setRow_other w.drew _ _ _ hx) (.inl rfl) (setRow_heap w.drew _ _ _ _ _ hg) hroom hcm ?_ ?_
  ·refine⟨rfl,rfl,rfl,by simp,Nat.le_succ _,fun x hx hm=>setRow_other w.drew _ _ _ fun q=>hm ⟨k,hlk,q.symm⟩⟩
  ·rw[List.size_toArray]
   simp only[List.length_append,List.length_take,List.length_drop,Array.length_toList,hcs,hyl,hzl]
   omega
  ·rw[List.toList_toArray]
   exact List.take_left' (by simp only[List.length_append,List.length_take,List.length_drop,hyl,hzl];omega)
 ·have hg2:cap<l.length+1:=by omega
  refine (ins_grow (E.ρ k) l.length cap j (E.ρ kv) cap' cur cur' 49 49 w hjn hg2 hnc hbig hg hcs hg' (by omega) (by rw[hys];exact one1) (by rw[hzs];exact one2)).mono ?_
  rintro e w' ⟨G,cur2,rfl,q1,q2,q3,q4,q5,q6⟩
  refine⟨_,rfl,?_⟩
  rw[hys,hzs,hyt] at q4
  exact key w' w.heap.size G cur2 (Grows.frm (Frm.refl w _) q6) q6.size (fun x _ hx=>q6.block x hx) (.inr (Nat.le_refl _)) q5 q1 (by unfold maxLen;omega) q3 q4
def c_insB:GC P:={ f:=162,con:=insCon,ent:=by kernel_rfl,ok:=insConOk }
def c_flag:GC P:={ f:=2,con:=fun _ _ _=>none,ent:=by kernel_rfl,ok:=fun _ _ _ _ h=>by cases h }
def L_insA:Lay:={ slots:=[(0,.row 49 tPm),(1,.val tI),(2,.val gP)] }
theorem T_insA(l:List Pm)(i:Int)(v:List Pm):jG (P:=P) [c_flag] (zH []) Tryz.f162 L_insA true (l,i,v,()) =
 Tree.need (0<=i/\i<=(l.length:Int)) (.cond ((v.length:Int)==0) (.leaf { res:=.own 100,boxes:=[],news:=[.row 49 tPm l] }) (.cond (i==(l.length:Int)) (.need ((l.length+v.length)*32<=140737488355328) (.leaf { res:=.own 100,boxes:=[],news:=[.row 49 tPm (l++v)] })) (Tree.fail 1030))):=by kernel_rfl
def c_insA:MC P:=MC.of (α:=List Pm×Int×List Pm×Unit) 162 L_insA (fun x=>x) (fun x=>x) (fun _=>rfl)
 (fun(l,i,v,_)=>some (i=l.length/\v.length=1/\l.length<=1000))
 (fun(l,_,v,_)=>⟨.own 100,[],[.row 49 tPm (l++v)]⟩) (by kernel_rfl) (by kernel_rfl) (by kernel_rfl) (by
  rintro⟨l,i,v,⟨⟩⟩ hp
  refine yG hm (own:=true) (by kernel_rfl) (by kernel_rfl) (by kernel_rfl) (T_insA l i v) trivial ?_
  obtain⟨rfl,hv,hl⟩:i=l.length/\v.length=1/\l.length<=1000:=hp
  refine⟨⟨by omega,by omega⟩,⟨fun c1=>?_,fun c1=>⟨fun c2=>⟨by omega,rfl⟩,fun c2=>?_⟩⟩⟩
  ·have c1:(v.length:Int)=0:=eq_of_beq c1
   omega
  ·exact absurd rfl (ne_of_beq_false c2))
def sIns(args:List SV)(H:Hp):Option Bool:=match args with
 | [.own k,.int _ i,_]=>match H k with
  |some (.row _ _ l)=>some (decide (i=l.length))
  |_=>none
 |_=>none
def c_ins:GC P:=GC.split sIns c_insA.gc c_insB (by kernel_rfl)
end
end Go.MB
