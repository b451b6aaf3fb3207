/- Operations, the rule, and since when it is broken: the plain law. -/
import Derived.Test.YtfhomgggbhjglaaMbAc
namespace Go.MB
open Go Go.Sx Go.Proofs
set_option linter.unusedVariables false
set_option linter.unusedSimpArgs false
noncomputable section
def cntO:List Pm → Int
  | [] => 0
  | p :: r => (if p.2.2.2 = true then 1 else 0) + cntO r
theorem cntO_nn:∀ l:List Pm,0 ≤ cntO l ∧ cntO l ≤ l.length
  | [] => ⟨Int.le_refl _,Int.le_refl _⟩
  | p :: r => by
    rw [cntO,List.length_cons]
    have:=cntO_nn r
    split <;> omega
theorem cntO_any:∀ l:List Pm,0 < cntO l ↔ l.any opnP = true
  | [] => by simp [cntO]
  | p :: r => by
    have h:=cntO_nn r
    rw [cntO,List.any_cons,Bool.or_eq_true,← cntO_any r]
    show _ ↔ p.2.2.2 = true ∨ _
    by_cases c:p.2.2.2 = true
    · rw [if_pos c]
      exact ⟨fun _ => .inl c,fun _ => by omega⟩
    · rw [if_neg c]
      exact ⟨fun k => .inr (by omega),fun k => (k.resolve_left c:0 < cntO r) |> fun k => by omega⟩
theorem cntO_set:∀ {l:List Pm} {i:Nat} {p:Pm},i < l.length → cntO (l.set i p) = cntO l - (if (l.getD i (0,0,0,false)).2.2.2 = true then 1 else 0) + (if p.2.2.2 = true then 1 else 0)
  | [],i,p,h => absurd h (Nat.not_lt_zero _)
  | x :: r,0,p,_ => by
    rw [List.set_cons_zero,cntO,cntO]
    show _ = _ - (if x.2.2.2 = true then 1 else 0) + _
    omega
  | x :: r,i + 1,p,h => by
    rw [List.set_cons_succ,cntO,cntO,cntO_set (by simpa using h)]
    show _ = _ - (if (r.getD i (0,0,0,false)).2.2.2 = true then 1 else 0) + _
    omega
theorem cntO_insR (p:Pm):∀ l:List Pm,cntO (insR p l) = cntO l + (if p.2.2.2 = true then 1 else 0)
  | [] => by
    show (if p.2.2.2 = true then (1:Int) else 0) + 0 = 0 + (if p.2.2.2 = true then (1:Int) else 0)
    omega
  | x :: r => by
    rw [insR]
    split
    · rw [cntO,cntO,cntO_insR p r]; omega
    · rw [cntO,cntO]; omega
def undP (e:Entry) (p:Pm):Bool:=(p.1 == e.2.2.2.1) && ((p.2.1 == e.2.2.1) && (!p.2.2.2 && decide (e.1 ≤ p.2.2.1)))
structure StV (s:Site) (e:Entry) (t:Site):Prop where
  more:cntO t.2.2.2.2.2.2.1 > cntO s.2.2.2.2.2.2.1 → e.2.1 = 9 ∧ s.2.2.2.2.2.2.1.any (undP e) = true ∧ holdsS t.2.2.2.2.2.1 e.1 t.2.2.2.2.1 = true
  kept:0 < cntO s.2.2.2.2.2.2.1 → (e.2.1 = 4 ∨ e.2.1 = 5) → holdsS t.2.2.2.2.2.1 e.1 t.2.2.2.2.1 = true
  brk:t.2.2.2.2.2.2.2 = -1 ↔ (cntO t.2.2.2.2.2.2.1 = 0 ∨ holdsS t.2.2.2.2.2.1 e.1 t.2.2.2.2.1 = true)
  since:t.2.2.2.2.2.2.2 ≠ -1 → s.2.2.2.2.2.2.2 = -1 → s.1 ≤ t.2.2.2.2.2.2.2 ∧ t.2.2.2.2.2.2.2 ≤ e.1 ∧ (t.2.2.2.2.2.2.2 = e.1 → holdsS s.2.2.2.2.2.1 e.1 s.2.2.2.2.1 = true → e.2.1 = 3 ∨ e.2.1 = 2) ∧ (t.2.2.2.2.2.2.2 < e.1 → holdsS s.2.2.2.2.2.1 t.2.2.2.2.2.2.2 s.2.2.2.2.1 = false ∧ 0 < cntO s.2.2.2.2.2.2.1) ∧ (s.1 < t.2.2.2.2.2.2.2 → holdsS s.2.2.2.2.2.1 (t.2.2.2.2.2.2.2 - 1) s.2.2.2.2.1 = true)
  stays:t.2.2.2.2.2.2.2 ≠ -1 → s.2.2.2.2.2.2.2 ≠ -1 → t.2.2.2.2.2.2.2 = s.2.2.2.2.2.2.2
theorem holds_ins {l:List E4} {v:List (List Int)} {n a t p:Int} (hn:0 ≤ n) (ha:insE l a = 0):holdsS (insL l a,v,n) t p = holdsS (l,v,n) t p:=by
  have hi:insL l a = l.set a.toNat (1,0,0,0):=by unfold insL; rw [if_pos ha]
  have hst:(gEl l a).1 = 0 ∨ (gEl l a).1 = 3:=by
    unfold insE at ha
    split at ha
    · cases ha
    split at ha
    · cases ha
    · rename_i c; omega
  have e:soundF (insL l a,v,n) t p = soundF (l,v,n) t p:=by
    unfold soundF
    dsimp only
    rw [hi,List.map_set]
    have h1:effS (1,0,0,0) t p = false:=by unfold effS; rfl
    have h2:effS (gEl l a) t p = false:=by
      unfold effS
      rw [decide_eq_false (by omega),Bool.false_and]
    by_cases c:a.toNat < l.length
    · have e3:effS (1,0,0,0) t p = (l.map fun e => effS e t p).getD a.toNat false:=by
        rw [h1,List.getD_eq_getElem?_getD,List.getElem?_map,List.getElem?_eq_getElem c]
        have:gEl l a = l[a.toNat]:=by unfold gEl; rw [List.getD_eq_getElem?_getD,List.getElem?_eq_getElem c]; rfl
        rw [this] at h2
        exact h2.symm
      rw [e3]
      exact set_same false _ _
    · rw [List.set_eq_of_length_le (by rw [List.length_map]; omega)]
  unfold holdsS proofF
  rw [e]
theorem keepS_iff {s:Site} {t:Int}:keepS s t = true ↔ cntO s.2.2.2.2.2.2.1 = 0 ∨ holdsS s.2.2.2.2.2.1 t s.2.2.2.2.1 = true:=by
  unfold keepS opnS
  have h1:=cntO_nn s.2.2.2.2.2.2.1
  have h2:=cntO_any s.2.2.2.2.2.2.1
  rw [Bool.or_eq_true,Bool.not_eq_true']
  constructor
  · rintro (h | h)
    · refine .inl ?_
      rw [h] at h2
      have:¬ 0 < cntO s.2.2.2.2.2.2.1:=fun k => by have:=h2.1 k; cases this
      omega
    · exact .inr h
  · rintro (h | h)
    · refine .inl (Bool.eq_false_iff.2 fun k => ?_)
      have:=h2.2 k; omega
    · exact .inr h
theorem n45 {P:Prop} (k:Int) (h4:k ≠ 4) (h5:k ≠ 5) (h:k = 4 ∨ k = 5):P:=(h.elim h4 h5).elim
theorem act_st {s:Site} {e:Entry} (hv:SiteOkV s) (hk:1 ≤ e.2.1 ∧ e.2.1 ≤ 10) (ha:actE s e = 0) :
    (cntO (actS s e).2.2.2.2.2.2.1 > cntO s.2.2.2.2.2.2.1 → e.2.1 = 9 ∧ s.2.2.2.2.2.2.1.any (undP e) = true ∧ holdsS (actS s e).2.2.2.2.2.1 e.1 (actS s e).2.2.2.2.1 = true) ∧
    ((e.2.1 = 4 ∨ e.2.1 = 5) → cntO (actS s e).2.2.2.2.2.2.1 = cntO s.2.2.2.2.2.2.1 ∧ keepS (actS s e) e.1 = true) ∧
    (e.2.1 ≠ 3 → e.2.1 ≠ 2 → holdsS s.2.2.2.2.2.1 e.1 s.2.2.2.2.1 = true → keepS (actS s e) e.1 = true):=by
  obtain ⟨x0,x1,x2,x3,x4,⟨x5,x6,x7⟩,x8,x9⟩:=s
  obtain ⟨e0,e1,e2,e3,e4,e5⟩:=e
  dsimp only at hk
  have nd:=(houseE_ok hv.hou).nd
  dsimp only at nd
  have hcase:e1 = 1 ∨ e1 = 2 ∨ e1 = 3 ∨ e1 = 4 ∨ e1 = 5 ∨ e1 = 6 ∨ e1 = 7 ∨ e1 = 8 ∨ e1 = 9 ∨ e1 = 10:=by omega
  have lt:∀ n:Int,¬ n > n:=fun n => by omega
  rcases hcase with rfl | rfl | rfl | rfl | rfl | rfl | rfl | rfl | rfl | rfl
  · refine ⟨fun h => absurd h (lt _),fun h => n45 1 (by decide) (by decide) h,fun _ _ h => keepS_iff.2 (.inr ?_)⟩
    show holdsS (insL x5 e3,x6,x7) e0 x4 = true
    rw [holds_ins (by omega) ha]
    exact h
  · exact ⟨fun h => absurd h (lt _),fun h => n45 2 (by decide) (by decide) h,fun _ h => absurd rfl h⟩
  · exact ⟨fun h => absurd h (lt _),fun h => n45 3 (by decide) (by decide) h,fun h => absurd rfl h⟩
  · have ha:remE (x0,x1,x2,x3,x4,(x5,x6,x7),x8,x9) (e0,4,e2,e3,e4,e5) = 0:=ha
    have hk' : keepS (setE (x0,x1,x2,x3,x4,(x5,x6,x7),x8,x9) (remL x5 e3)) e0 = true:=by
      unfold remE at ha
      split at ha
      · rename_i c; exact absurd ha c
      split at ha
      · cases ha
      · rename_i c; simpa using c
    exact ⟨fun h => absurd h (lt _),fun _ => ⟨rfl,hk'⟩,fun _ _ _ => hk'⟩
  · have ha:prsE (x0,x1,x2,x3,x4,(x5,x6,x7),x8,x9) (e0,5,e2,e3,e4,e5) = 0:=ha
    have hk' : keepS (setP (x0,x1,x2,x3,x4,(x5,x6,x7),x8,x9) (prsN (x0,x1,x2,x3,x4,(x5,x6,x7),x8,x9) (e0,5,e2,e3,e4,e5))) e0 = true:=by
      unfold prsE at ha
      split at ha
      · rename_i c; exact absurd ha c
      split at ha
      · cases ha
      · rename_i c1 c
        have e:prsN (x0,x1,x2,x3,x4,(x5,x6,x7),x8,x9) (e0,5,e2,e3,e4,e5) = e5:=by unfold prsN; rw [if_pos (Decidable.not_not.1 c1)]
        rw [e]
        simpa using c
    exact ⟨fun h => absurd h (lt _),fun _ => ⟨rfl,hk'⟩,fun _ _ _ => hk'⟩
  · exact ⟨fun h => absurd h (lt _),fun h => n45 6 (by decide) (by decide) h,fun _ _ h => keepS_iff.2 (.inr h)⟩
  · exact ⟨fun h => absurd h (lt _),fun h => n45 7 (by decide) (by decide) h,fun _ _ h => keepS_iff.2 (.inr h)⟩
  · have ha:prmE (x0,x1,x2,x3,x4,(x5,x6,x7),x8,x9) (e0,8,e2,e3,e4,e5) = 0:=ha
    refine ⟨fun h => ?_,fun h => n45 8 (by decide) (by decide) h,fun _ _ h => keepS_iff.2 (.inr h)⟩
    exfalso
    have h:cntO (prmL (x0,x1,x2,x3,x4,(x5,x6,x7),x8,x9) (e0,8,e2,e3,e4,e5)) > cntO x8:=h
    unfold prmL at h
    rw [if_pos ha] at h
    dsimp only at h
    split at h
    · rename_i c
      have hlt:pIx x8 e3 < x8.length:=ixS_ltL
      rw [cntO_set (show (pIx x8 e3).toNat < x8.length by omega)] at h
      have:(pmN (e0,8,e2,e3,e4,e5)).2.2.2 = false:=rfl
      rw [this,if_neg (show ¬ (false = true) by decide)] at h
      split at h <;> omega
    · rw [insP_eq,cntO_insR] at h
      have:(pmN (e0,8,e2,e3,e4,e5)).2.2.2 = false:=rfl
      rw [this,if_neg (show ¬ (false = true) by decide)] at h
      omega
  · have ha:staE (x0,x1,x2,x3,x4,(x5,x6,x7),x8,x9) (e0,9,e2,e3,e4,e5) = 0:=ha
    unfold staE at ha
    split at ha
    · cases ha
    split at ha
    · cases ha
    split at ha
    · cases ha
    split at ha
    · cases ha
    split at ha
    · cases ha
    rename_i c1 c2 c3 c4 c5
    dsimp only at c1
    have hg:=pIx_get (l:=x8) (op:=e3) (by omega)
    have c2:(gPm x8 (pIx x8 e3)).2.1 = e2:=Decidable.not_not.1 c2
    have c3:(gPm x8 (pIx x8 e3)).2.2.2 = false:=by
      have:¬ (gPm x8 (pIx x8 e3)).2.2.2 = true:=c3
      simpa using this
    have c4:e0 ≤ (gPm x8 (pIx x8 e3)).2.2.1:=by
      have:¬ e0 > (gPm x8 (pIx x8 e3)).2.2.1:=c4
      omega
    have c5:holdsS (x5,x6,x7) e0 x4 = true:=by
      have:¬ holdsS (x5,x6,x7) e0 x4 = false:=c5
      simpa using this
    refine ⟨fun _ => ⟨rfl,List.any_eq_true.2 ⟨_,hg.1,?_⟩,c5⟩,fun h => n45 9 (by decide) (by decide) h,fun _ _ h => keepS_iff.2 (.inr h)⟩
    unfold undP
    dsimp only
    rw [hg.2,c2,c3,decide_eq_true c4]
    simp
  · have ha:stoE (x0,x1,x2,x3,x4,(x5,x6,x7),x8,x9) (e0,10,e2,e3,e4,e5) = 0:=ha
    refine ⟨fun h => ?_,fun h => n45 10 (by decide) (by decide) h,fun _ _ h => keepS_iff.2 (.inr h)⟩
    exfalso
    have h:cntO (stoL (x0,x1,x2,x3,x4,(x5,x6,x7),x8,x9) (e0,10,e2,e3,e4,e5)) > cntO x8:=h
    have c:0 ≤ pIx x8 e3:=by
      unfold stoE at ha
      split at ha
      · cases ha
      · rename_i c; dsimp only at c; omega
    unfold stoL at h
    rw [if_pos ha] at h
    have hlt:pIx x8 e3 < x8.length:=ixS_ltL
    have h:cntO (x8.set (pIx x8 e3).toNat ((gPm x8 (pIx x8 e3)).1,(gPm x8 (pIx x8 e3)).2.1,(gPm x8 (pIx x8 e3)).2.2.1,false)) > cntO x8:=h
    rw [cntO_set (show (pIx x8 e3).toNat < x8.length by omega)] at h
    dsimp only at h
    rw [if_neg (show ¬ (false = true) by decide)] at h
    split at h <;> omega
theorem stand_ok {s t:Site} {e:Entry} (hc:chkS s = 0) (hd:doG s e = (t,0)):StV s e t:=by
  obtain ⟨g1,g2,g3,g4,g5,g6⟩:=do_ok hc hd
  obtain ⟨hv,hk1,hk2⟩:=chkS_all hc
  have hkind:1 ≤ e.2.1 ∧ e.2.1 ≤ 10:=by
    unfold doG at hd
    split at hd
    · cases hd
    split at hd
    · cases hd
    split at hd
    · cases hd
    split at hd
    · cases hd
    · rename_i c; omega
  obtain ⟨a1,a2,a3⟩:=act_st hv hkind g6
  have ht:=hv.num.tick
  have eP:t.2.2.2.2.2.2.1 = (actS s e).2.2.2.2.2.2.1:=by rw [g5]; rfl
  have eH:t.2.2.2.2.2.1 = (actS s e).2.2.2.2.2.1:=by rw [g5]; rfl
  have eR:t.2.2.2.2.1 = (actS s e).2.2.2.2.1:=by rw [g5]; rfl
  have eB:t.2.2.2.2.2.2.2 = brkN s e (actS s e):=by rw [g5]; rfl
  have kT:keepS (setT (actS s e) e.1) e.1 = true ↔ keepS (actS s e) e.1 = true:=Iff.rfl
  have kI:=keepS_iff (s:=actS s e) (t:=e.1)
  have nd:=(houseE_ok hv.hou).nd
  have cS:=cntO_any s.2.2.2.2.2.2.1
  have cN:=cntO_nn s.2.2.2.2.2.2.1
  have bNe:keepS (actS s e) e.1 = false → (s.2.2.2.2.2.2.2 = -1 ∧ ((brkS s.2.2.2.2.2.1 s.1 e.1 s.2.2.2.2.1).2 = true ∧ opnS s = true) ∧ brkN s e (actS s e) = (brkS s.2.2.2.2.2.1 s.1 e.1 s.2.2.2.2.1).1) ∨ (s.2.2.2.2.2.2.2 = -1 ∧ ¬ ((brkS s.2.2.2.2.2.1 s.1 e.1 s.2.2.2.2.1).2 = true ∧ opnS s = true) ∧ brkN s e (actS s e) = e.1) ∨ (s.2.2.2.2.2.2.2 ≠ -1 ∧ brkN s e (actS s e) = s.2.2.2.2.2.2.2):=fun h => by
    unfold brkN
    rw [if_neg (fun k => by rw [kT.1 k] at h; cases h)]
    by_cases c:s.2.2.2.2.2.2.2 = -1
    · rw [if_pos c]
      by_cases d:(brkS s.2.2.2.2.2.1 s.1 e.1 s.2.2.2.2.1).2 = true ∧ opnS s = true
      · rw [if_pos d]; exact .inl ⟨c,d,rfl⟩
      · rw [if_neg d]; exact .inr (.inl ⟨c,d,rfl⟩)
    · rw [if_neg c]; exact .inr (.inr ⟨c,rfl⟩)
  have bEq:keepS (actS s e) e.1 = true → brkN s e (actS s e) = -1:=fun h => by
    unfold brkN
    rw [if_pos (kT.2 h)]
  have b0:keepS (actS s e) e.1 = false → brkN s e (actS s e) ≠ -1:=fun h => by
    rcases bNe h with ⟨_,q,q2⟩ | ⟨_,_,q2⟩ | ⟨q,q2⟩
    · have:=brkS_rng (by omega) q.1; omega
    · omega
    · rw [q2]; exact q
  refine ⟨by rw [eP,eH,eR]; exact a1,fun h h4 => ?_,?_,fun h1 h2 => ?_,fun h1 h2 => ?_⟩
  all_goals simp only [eP,eH,eR,eB] at *
  · obtain ⟨q1,q2⟩:=a2 h4
    rcases kI.1 q2 with q | q
    · omega
    · exact q
  · rw [← kI]
    cases c:keepS (actS s e) e.1 with
    | true => exact ⟨fun _ => rfl,fun _ => bEq c⟩
    | false => exact ⟨fun h => absurd h (b0 c),fun h => by cases h⟩
  · have c:keepS (actS s e) e.1 = false:=by
      cases c:keepS (actS s e) e.1 with
      | true => exact absurd (bEq c) h1
      | false => rfl
    have was:holdsS s.2.2.2.2.2.1 e.1 s.2.2.2.2.1 = true → e.2.1 = 3 ∨ e.2.1 = 2:=fun h => by
      by_cases d3:e.2.1 = 3
      · exact .inl d3
      by_cases d2:e.2.1 = 2
      · exact .inr d2
      rw [a3 d3 d2 h] at c; cases c
    have opn:opnS s = true:=by
      cases o:opnS s with
      | true => rfl
      | false =>
        exfalso
        have cs:¬ 0 < cntO s.2.2.2.2.2.2.1:=fun k => by
          have:=cS.1 k
          rw [show opnS s = s.2.2.2.2.2.2.1.any opnP from rfl,this] at o; cases o
        have ca:cntO (actS s e).2.2.2.2.2.2.1 ≠ 0:=fun k => by rw [kI.2 (.inl k)] at c; cases c
        have:=cntO_nn (actS s e).2.2.2.2.2.2.1
        have:=(a1 (by omega)).2.2
        rw [kI.2 (.inr this)] at c; cases c
    rcases bNe c with ⟨_,q,q2⟩ | ⟨_,q,q2⟩ | ⟨q,_⟩
    · have r:=brkS_rng (by omega) q.1
      have bo:=(brk_ok s.2.2.2.2.2.1 s.1 e.1 s.2.2.2.2.1).1 q.1
      rw [q2]
      refine ⟨r.1,r.2,fun h k => ?_,fun h => ⟨bo.2.1,cS.2 q.2⟩,fun h => ?_⟩
      · rw [← h,bo.2.1] at k; cases k
      · exact holds_between (by omega) (fr:=s.1) (to:=e.1) (by omega) (by omega) fun u hu hl => bo.2.2 u hu (by omega)
    · rw [q2]
      refine ⟨g3,Int.le_refl _,fun _ k => was k,fun h => by omega,fun h => ?_⟩
      have nb:(brkS s.2.2.2.2.2.1 s.1 e.1 s.2.2.2.2.1).2 = false:=by
        cases d:(brkS s.2.2.2.2.2.1 s.1 e.1 s.2.2.2.2.1).2 with
        | true => exact absurd ⟨d,opn⟩ q
        | false => rfl
      exact holds_between (by omega) (fr:=s.1) (to:=e.1) (by omega) (by omega) fun u hu _ => ((brk_ok s.2.2.2.2.2.1 s.1 e.1 s.2.2.2.2.1).2 nb).2 u hu
    · exact absurd h2 q
  · have c:keepS (actS s e) e.1 = false:=by
      cases c:keepS (actS s e) e.1 with
      | true => exact absurd (bEq c) h1
      | false => rfl
    rcases bNe c with ⟨q,_⟩ | ⟨q,_⟩ | ⟨_,q⟩
    · exact absurd q h2
    · exact absurd q h2
    · exact q
end
end Go.MB
