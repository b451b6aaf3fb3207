/- Numbers written over in data of one's own: read-only parts, and a region whose last operation stores a number. -/
import Derived.Test.YtfhomgggbhjglaaSxAm
namespace Go.Sx
open Go.RowKit
def okS (us : List Nat) : SV → Bool
  | .ptr k _ => inL us k
  | s => isData s
theorem okS_rep {E E' : En} {U : Nat → Bool} {us : List Nat} {w : World} (hI : E'.I = E.I) (hρ : ∀ k ∈ us,E.ρ k = E'.ρ k) {s : SV} {v : Value} (h : okS us s = true) (hr : Rep E U w s v) : Rep E' (apU noU us) w s v:=by
  cases s with
  | ptr k o =>
    have hk : k ∈ us:=inL_iff.1 h
    unfold Rep at hr ⊢
    exact ⟨(stOf_used (ts:=[]) (hs:=[])).2 hk,by rw [← hρ k hk]; exact hr.2⟩
  | _ => exact data_rep (E:=E) (E':=E') hI _ _ h hr
theorem MarksAt.step2 {N : Nat} {K : Nat → Prop} {B : Bs} {E : En} {S : St} {a : Act} {w : World} (hs : SatE B E S a w) (hN : N ≤ B.w0.heap.size) (h0 : MarksAt N B.w0 (fun b => B.E0.I b ∨ K b) B.D) (hK : ∀ b,K b → b < B.w0.heap.size) (hM : ∀ b,B.M b → B.w0.heap[b]? ≠ some (.deferred (some []))) : MarksAt N w (fun b => E.I b ∨ K b) a.defers:=by
  obtain ⟨ds,e1,n1,h1⟩:=h0
  obtain ⟨es,e2,n2,h2⟩:=hs.defers
  have old : ∀ d ∈ ds,d < B.w0.heap.size:=fun d hd => (Array.getElem?_eq_some_iff.1 (h1 d hd).2.2).1
  refine ⟨es ++ ds,by rw [e2,e1,List.map_append],List.nodup_append.2 ⟨n2,n1,fun x hx y hy e => ?_⟩,fun d hd => ?_⟩
  · subst e
    have:=(h2 x hx).2.2
    have:=old x hy
    omega
  · rcases List.mem_append.1 hd with hd | hd
    · obtain ⟨a1,a2,a3⟩:=h2 d hd
      exact ⟨Nat.le_trans hN a3,fun h => h.elim a1 fun hk => absurd (hK d hk) (Nat.not_lt.2 a3),a2⟩
    · obtain ⟨a0,a1,a2⟩:=h1 d hd
      have nM : ¬ B.M d:=fun h => hM d h a2
      refine ⟨a0,fun hI => ?_,by rw [hs.heap.frame.block d (old d hd) nM]; exact a2⟩
      rcases hI with hI | hI
      · rcases hs.fresh d hI with h | h | h
        · exact a1 (.inl h)
        · exact nM h
        · have:=old d hd; omega
      · exact a1 (.inr hI)
structure Scr (E1 : En) (us : List Nat) (Nm : Nat) (K : Nat → Prop) (N n : Nat) (w0 : World) (ts : List (Nat × SV)) (a : Act) (w : World) : Prop where
  st : ∃ J : Nat → Prop,(∀ b,J b → N ≤ b) ∧ SatE ⟨w,fun _ => False,{ E1 with I:=J },apU noU us,n,a.defers⟩ { E1 with I:=J } (stOf ts [] us) a w ∧ MarksAt Nm w (fun b => J b ∨ K b) a.defers
  size : N ≤ w.heap.size
  nm : Nm ≤ w.heap.size
  kk : ∀ b,K b → b < w.heap.size
  fr : Frm w0 (fun b => N ≤ b) w
theorem Frm.trans' {w0 w1 w2 : World} {M M' : Nat → Prop} (h : Frm w0 M w1) (k : Frm w1 M' w2) (hM : ∀ b,b < w0.heap.size → ¬ M b → ¬ M' b) : Frm w0 M w2 :=
  ⟨k.os.trans h.os,k.tape.trans h.tape,k.output.trans h.output,Nat.le_trans h.size k.size,Nat.le_trans h.drawn k.drawn,fun b hb hm => (k.block b (Nat.lt_of_lt_of_le hb h.size) (hM b hb hm)).trans (h.block b hb hm)⟩
theorem sat_pick {E1 : En} {us : List Nat} {n : Nat} {B : Bs} {E : En} {S : St} {a : Act} {w : World} (hs : SatE B E S a w) (hn : B.n = n) (hρ : ∀ k ∈ us,E.ρ k = E1.ρ k) (ts : List (Nat × SV)) (h : ∀ p ∈ ts,p.1 < n ∧ okS us p.2 = true ∧ S.tmps p.1 = p.2) :
    SatE ⟨w,fun _ => False,{ E1 with I:=E.I },apU noU us,n,a.defers⟩ { E1 with I:=E.I } (stOf ts [] us) a w :=
  stOf_sat (us:=us) (by rw [← hn]; exact hs.size) rfl (fun p hp => by
    obtain ⟨h1,h2,h3⟩:=h p hp
    have:=hs.tmps p.1 (by rw [hn]; exact h1)
    rw [h3] at this
    exact okS_rep (E:=E) (E':={ E1 with I:=E.I }) rfl hρ h2 this) (fun k o hk => by cases hk) (fun _ _ _ _ hj => by cases hj) (fun _ _ hk => by cases hk) hs.heap.lt
theorem Scr.code {P : Program} (hm : P.follows .mixedOrders = true) {E1 : En} {us : List Nat} {Nm : Nat} {K : Nat → Prop} {N n : Nat} {w0 : World} {ts : List (Nat × SV)} {a : Act} {w : World} (h : Scr E1 us Nm K N n w0 ts a w) (cur : Nat) (c : Code) {keys : List Nat} {Q : Exit × List SV × List (Option Ob) × List Bool → Prop}
    (hT : (execC (P:=P) [] (fun _ => none) [] n cur c (stOf ts [] us) (fun _ => none) (fun e S _ => obs keys [] [] e S)).holds Q) :
    c.wpIn (FR none) 0 P (fun e a' w' => ∃ svs,Q (e,svs,[],[]) ∧ ((keys.all fun k => Nat.blt k n) = true → svs.all (okS us) = true → Scr E1 us Nm K N n w0 (keys.zip svs) a' w')) a w:=by
  obtain ⟨J,hJ,hs,hmk⟩:=h.st
  refine execC_ok hm (r0:=none) (u0:=apU noU us) (cx:=[]) (lp:=fun _ => none) (ys:=[]) (B:=⟨w,fun _ => False,{ E1 with I:=J },apU noU us,n,a.defers⟩) (Q:=Q) (fun k hk => hk) (fun h hh => by cases hh) c cur (stOf ts [] us) (fun _ => none) (fun e S _ => obs keys [] [] e S) _ (loopsOk_none _ _) (kInv_none _ _) hT ?_ a w ⟨{ E1 with I:=J },hs⟩
  intro e S' K' a' w' _ hs' hk
  obtain ⟨E',hsE⟩:=hs'
  refine ⟨keys.map S'.tmps,obs_holds hk,fun hlt hd => ?_⟩
  have hI' : ∀ b,E'.I b → N ≤ b:=fun b hb => (hsE.fresh b hb).elim (hJ b) fun hh => hh.elim (fun x => x.elim) (Nat.le_trans h.size)
  have hzip : ∀ p ∈ keys.zip (keys.map S'.tmps),p.1 < n ∧ okS us p.2 = true ∧ S'.tmps p.1 = p.2:=by
    intro p hp
    obtain ⟨k,v⟩:=p
    have h1:=List.of_mem_zip hp
    have h3 : v = S'.tmps k:=by
      obtain ⟨i,hi,he⟩:=List.mem_iff_getElem.1 hp
      rw [List.getElem_zip] at he
      simp only [Prod.mk.injEq,List.getElem_map] at he
      rw [← he.2,he.1]
    exact ⟨by simpa [Nat.blt_eq] using List.all_eq_true.1 hlt k h1.1,List.all_eq_true.1 hd v h1.2,h3.symm⟩
  refine ⟨⟨E'.I,hI',sat_pick hsE rfl (fun k hk => hsE.le.rho k ((stOf_used (ts:=[]) (hs:=[])).2 hk)) _ hzip,MarksAt.step2 hsE h.nm hmk h.kk (fun b hb => hb.elim)⟩,Nat.le_trans h.size hsE.heap.frame.size,Nat.le_trans h.nm hsE.heap.frame.size,fun b hb => Nat.lt_of_lt_of_le (h.kk b hb) hsE.heap.frame.size,?_⟩
  exact h.fr.trans' hsE.heap.frame fun _ _ _ x => x
theorem Scr.write {P : Program} {E1 : En} {us : List Nat} {Nm : Nat} {K : Nat → Prop} {N n : Nat} {w0 : World} {ts : List (Nat × SV)} {a : Act} {w : World} (h : Scr E1 us Nm K N n w0 ts a w) {id : Nat} {ops : Array Oper} {pre : List Oper} {o : Oper} {t : TypeId} {tx ty : Nat} (hops : ops.toList = pre ++ [o]) (hg : o.guard = none) (hdst : o.dst = none)
    (ho : o.op = .store t (.tmp tx) (.tmp ty)) (ht : szOf P t = some 1) {key : Nat} {keys : List Nat} {T : Ty} {d : T.den} {rs : List (Nat × SV)} {k : IntKind} {m m' : Int} (hT : T.plain = true)
    (hr : rs = keys.zip (rs.map (·.2))) (hrd : rs.all (fun p => (match p.2 with
      | .int _ _ => true
      | .ptr k _ => inL us k
      | _ => false) && Nat.blt p.1 n) = true) (hkey : key < n) (hx : tx < n) (hy : ty < n) (hl : keys.length = rs.length)
    (hE : (execOps (P:=P) [] n ops false pre (stOf ts [] us) (fun _ => none) [] (fun S _ => obs (key :: tx :: ty :: keys) [] [] .normal S)).holds fun x => x = (.normal,.adr T d :: .adr (.int k) m :: .int k m' :: rs.map (·.2),[],[])) :
    (Code.region id ops false).wpIn (FR none) 0 P (fun e a' w' => e = .normal ∧ ∃ d',SameSh T d d' ∧ Scr E1 us Nm K N n w0 ((key,.adr T d') :: rs) a' w') a w:=by
  obtain ⟨J,hJ,hs,hmk⟩:=h.st
  obtain ⟨r,S',K',hL,_,_,hk⟩:=execOps_ok pre (stOf ts [] us) (fun _ => none) [] (kInv_none _ _) hE
  have hq:=obs_holds hk
  injection hq with _ hq
  injection hq with hq _
  rw [List.map_cons,List.map_cons,List.map_cons] at hq
  injection hq with q1 hq
  injection hq with q2 hq
  injection hq with q3 q4
  refine wpIn_region ?_
  have hsz : ops.size = pre.length + 1:=by rw [← Array.length_toList,hops,List.length_append]; rfl
  have hrange : List.range ops.size = List.range' 0 pre.length ++ [pre.length]:=by
    rw [hsz,List.range_succ,List.range_eq_range']
  rw [hrange]
  refine lex_opsK (B:=⟨w,fun _ => False,{ E1 with I:=J },apU noU us,n,a.defers⟩) hL 0 (fun j o' ho' => ?_) a w ⟨{ E1 with I:=J },hs⟩ fun a1 w1 hs1 => ?_
  · rw [Nat.zero_add,← Array.getElem?_toList,hops,List.getElem?_append_left (List.getElem?_eq_some_iff.1 ho').1]
    exact ho'
  obtain ⟨E',hsE⟩:=hs1
  have hI' : ∀ b,E'.I b → N ≤ b:=fun b hb => (hsE.fresh b hb).elim (hJ b) fun hh => hh.elim (fun x => x.elim) (Nat.le_trans h.size)
  have hmk':=MarksAt.step2 hsE h.nm hmk h.kk (fun b hb => hb.elim)
  have x1:=hsE.tmps key hkey
  have x2:=hsE.eval (.tmp tx)
  have x3:=hsE.eval (.tmp ty)
  have ev : ∀ z,z < n → S'.eval n (.tmp z) = S'.tmps z:=fun z hz => by
    show (bif Nat.blt z n then S'.tmps z else .any) = _
    rw [Nat.blt_eq.mpr hz]; rfl
  rw [q1] at x1
  rw [show (⟨w,fun _ => False,{ E1 with I:=J },apU noU us,n,a.defers⟩ : Bs).n = n from rfl,ev tx hx,q2] at x2
  rw [show (⟨w,fun _ => False,{ E1 with I:=J },apU noU us,n,a.defers⟩ : Bs).n = n from rfl,ev ty hy,q3] at x3
  obtain ⟨g,off,cur,tyc,mk,gI,gh,gc,grun⟩:=store_num (P:=P) (o:=o) (ρv:=a1.eval) ho ht x2 x3
  have hglt : g < w1.heap.size:=(Array.getElem?_eq_some_iff.1 gh).1
  refine store_hand (by rw [← Array.getElem?_toList,hops]; simp) hg ho grun ?_
  rw [hdst]
  show _ ∧ _
  refine ⟨rfl,?_⟩
  let w2:=w1.setRow g (cur.setIfInBounds off (.int k m'))
  have hsim : SimW E'.I w1 w2:=simW_set gh gc _
  unfold Rep at x1
  obtain ⟨b,ob,cs,hp,hb,hrow,hdr⟩:=x1
  obtain ⟨cs',c1,c2,c3⟩:=hrow.sim hsim hb
  obtain ⟨d',sh,hdr'⟩:=DRep.sim hsim T d cs cs' hT hdr c1 c2
  have hsz2 : w2.heap.size = w1.heap.size:=size_setRow _ _ _
  have hother : ∀ x,x ≠ g → w2.heap[x]? = w1.heap[x]?:=fun x hx => setRow_other w1 g x _ hx
  refine ⟨d',sh,⟨E'.I,hI',?_,?_⟩,by rw [hsz2]; exact Nat.le_trans h.size hsE.heap.frame.size,by rw [hsz2]; exact Nat.le_trans h.nm hsE.heap.frame.size,fun b hb => by rw [hsz2]; exact Nat.lt_of_lt_of_le (h.kk b hb) hsE.heap.frame.size,?_⟩
  · refine stOf_sat (us:=us) hsE.size rfl (fun p hp' => ?_) (fun k o hk => by cases hk) (fun _ _ _ _ hj => by cases hj) (fun _ _ hk => by cases hk) (fun x hx => by rw [hsz2]; exact hsE.heap.lt x hx)
    rcases List.mem_cons.1 hp' with rfl | hp'
    · show Rep { E1 with I:=E'.I } _ w2 (.adr T d') _
      unfold Rep
      exact ⟨b,ob,cs',hp,hb,c3,hdr'⟩
    · have h1:=List.all_eq_true.1 hrd p hp'
      rw [Bool.and_eq_true] at h1
      have hlt : p.1 < n:=Nat.blt_eq.mp h1.2
      have hS : S'.tmps p.1 = p.2:=by
        obtain ⟨i,hi,he⟩:=List.mem_iff_getElem.1 hp'
        have h3 : (keys.map S'.tmps)[i]? = (rs.map (·.2))[i]?:=by rw [q4]
        have hik : i < keys.length:=by omega
        rw [List.getElem?_map,List.getElem?_map,List.getElem?_eq_getElem hik,List.getElem?_eq_getElem hi] at h3
        have h4 : S'.tmps keys[i] = rs[i].2:=Option.some.inj h3
        have h5 : rs[i]? = (keys.zip (rs.map (·.2)))[i]?:=by rw [← hr]
        rw [List.getElem?_eq_getElem hi,List.getElem?_eq_getElem (by rw [List.length_zip,List.length_map]; omega),List.getElem_zip] at h5
        have h6:=Option.some.inj h5
        have h7 : rs[i].1 = keys[i]:=by rw [h6]
        rw [← he,h7,h4]
      have hv:=hsE.tmps p.1 hlt
      rw [hS] at hv
      cases hp2 : p.2 with
      | int kk z =>
        rw [hp2] at hv
        unfold Rep at hv ⊢
        exact hv
      | ptr kk z =>
        rw [hp2] at hv h1
        have hk : kk ∈ us:=inL_iff.1 h1.1
        have hU:=(stOf_used (ts:=[]) (hs:=[])).2 hk
        have er : E'.ρ kk = E1.ρ kk:=hsE.le.rho kk hU
        unfold Rep at hv ⊢
        exact ⟨hU,by rw [← er]; exact hv.2⟩
      | _ => rw [hp2] at h1; simp at h1
  · refine hmk'.keep (fun x hx => hother x fun e => ?_) (fun x _ hx => hx)
    rw [e,gh] at hx
    cases hx
  · refine (h.fr.trans' hsE.heap.frame fun _ _ _ x => x).trans' (M':=fun b => b = g) ⟨rfl,rfl,rfl,by rw [hsz2]; exact Nat.le_refl _,Nat.le_refl _,fun x _ hx => hother x hx⟩ fun x _ hx he => hx ?_
    rw [he]; exact hI' g gI
theorem Scr.pick {E1 : En} {us : List Nat} {Nm : Nat} {K : Nat → Prop} {N n : Nat} {w0 : World} {ts ts' : List (Nat × SV)} {a : Act} {w : World} (h : Scr E1 us Nm K N n w0 ts a w) (hp : ∀ p ∈ ts',p.1 < n ∧ okS us p.2 = true ∧ (stOf ts [] us).tmps p.1 = p.2) : Scr E1 us Nm K N n w0 ts' a w:=by
  obtain ⟨J,hJ,hs,hmk⟩:=h.st
  exact ⟨⟨J,hJ,sat_pick hs rfl (fun k _ => rfl) ts' hp,hmk⟩,h.size,h.nm,h.kk,h.fr⟩
theorem Scr.head {E1 : En} {us : List Nat} {Nm : Nat} {K : Nat → Prop} {N n : Nat} {w0 : World} {k : Nat} {i : Int} {ts : List (Nat × SV)} {a : Act} {w : World} (h : Scr E1 us Nm K N n w0 ((k,.int .i64 i) :: ts) a w) (hk : k < n) : a.tmps.getD k undef = .int .i64 i:=by
  obtain ⟨J,hJ,hs,hmk⟩:=h.st
  have:=hs.tmps k hk
  have e : (stOf ((k,.int .i64 i) :: ts) [] us).tmps k = .int .i64 i:=by
    show (match List.find? (fun p => Nat.beq p.1 k) ((k,SV.int .i64 i) :: ts) with
      | some p => p.2
      | none => .any) = _
    rw [List.find?_cons,show Nat.beq (k,SV.int .i64 i).1 k = true from Nat.beq_refl k]
  rw [e] at this
  unfold Rep at this
  exact this
theorem Scr.loop {P : Program} {E1 : En} {us : List Nat} {Nm : Nat} {K : Nat → Prop} {N n : Nat} {w0 : World} {T : Ty} {id key dk : Nat} {fx : List (Nat × SV)} {body : Code} (hk : key < n) (len : T.den → Int) (hlen : ∀ d d',SameSh T d d' → len d' = len d) {d0 : T.den}
    (round : ∀ (d : T.den),SameSh T d0 d → ∀ (i:Int) (a : Act) (w : World),0 ≤ i → Scr E1 us Nm K N n w0 ((key,.int .i64 i) :: (dk,.adr T d) :: fx) a w → body.wpIn (FR none) 0 P (fun e a' w' => ∃ d',SameSh T d d' ∧
      ((e = .exit id ∧ Scr E1 us Nm K N n w0 ((dk,.adr T d') :: fx) a' w') ∨ (e = .normal ∧ i < len d ∧ Scr E1 us Nm K N n w0 ((key,.int .i64 (i + 1)) :: (dk,.adr T d') :: fx) a' w'))) a w)
    {a : Act} {w : World} (h : Scr E1 us Nm K N n w0 ((key,.int .i64 0) :: (dk,.adr T d0) :: fx) a w) :
    (Code.block id (.loop body)).wpIn (FR none) 0 P (fun e a' w' => e = .normal ∧ ∃ d',SameSh T d0 d' ∧ Scr E1 us Nm K N n w0 ((dk,.adr T d') :: fx) a' w') a w:=by
  refine wpIn_block (wpIn_loop (fun a w => ∃ i d',0 ≤ i ∧ SameSh T d0 d' ∧ Scr E1 us Nm K N n w0 ((key,.int .i64 i) :: (dk,.adr T d') :: fx) a w) (fun a _ => (len d0 - (match a.tmps.getD key undef with
    | .int _ n => n
    | _ => 0)).toNat) ⟨0,d0,Int.le_refl _,SameSh.refl T d0,h⟩ ?_)
  rintro a w ⟨i,d1,hi,hd,hs⟩
  refine wpIn_mono (round d1 hd i a w hi hs) ?_
  rintro e a' w' ⟨d2,hd2,⟨rfl,hs'⟩ | ⟨rfl,hlt,hs'⟩⟩
  · have key : Exit.inBlock id (fun e a' w' => e = Exit.normal ∧ ∃ d',SameSh T d0 d' ∧ Scr E1 us Nm K N n w0 ((dk,.adr T d') :: fx) a' w') (.exit id) a' w':=by
      simp only [Exit.inBlock,if_true]
      exact ⟨trivial,d2,hd.trans hd2,hs'⟩
    exact key
  · refine ⟨⟨i + 1,d2,by omega,hd.trans hd2,hs'⟩,?_⟩
    rw [hlen d0 d1 hd] at hlt
    simp only [hs.head hk,hs'.head hk]
    have h1:=Int.toNat_of_nonneg (show 0 ≤ len d0 - i by omega)
    have h2:=Int.toNat_of_nonneg (show 0 ≤ len d0 - (i + 1) by omega)
    generalize (len d0 - i).toNat = x at *
    generalize (len d0 - (i + 1)).toNat = y at *
    omega
def obsB {β : Type} (P : Program) (n : Nat) (fn : Func) (S : St) (k : Bool → Tree β) : Tree β:=match resL P n S fn.results.toList with
  | some [.bool b] => k b
  | _ => .fail 54
theorem obsB_holds {β : Type} {Q : β → Prop} {P : Program} {n : Nat} {fn : Func} {S : St} {k : Bool → Tree β} (h : (obsB P n fn S k).holds Q) : ∃ b,resL P n S fn.results.toList = some [.bool b] ∧ (k b).holds Q:=by
  unfold obsB at h
  split at h
  · rename_i b hr
    exact ⟨b,hr,h⟩
  · exact h.elim
end Go.Sx
