/- The reference's table of ticks: what it holds; plain laws. -/
import Derived.Test.YtmolckndbmjgfaaMrZ
namespace Go.MR
open Go Go.Sx Go.Proofs
set_option linter.unusedVariables false
set_option linter.unusedSimpArgs false
noncomputable section
abbrev Rows3 := List Int × List Int × List Int
def getT (T : Rows3) (k : Int) : List Int := if k = 0 then T.1 else if k = 1 then T.2.1 else T.2.2
def setT (T : Rows3) (k : Int) (v : List Int) : Rows3 := if k = 0 then (v, T.2.1, T.2.2) else if k = 1 then (T.1, v, T.2.2) else (T.1, T.2.1, v)
theorem getT_set {T : Rows3} {k j : Int} {v : List Int} (hk : 0 ≤ k ∧ k ≤ 2) (hj : 0 ≤ j ∧ j ≤ 2) : getT (setT T k v) j = if j = k then v else getT T j := by
  have h1 : k = 0 ∨ k = 1 ∨ k = 2 := by omega
  have h2 : j = 0 ∨ j = 1 ∨ j = 2 := by omega
  rcases h1 with rfl | rfl | rfl <;> rcases h2 with rfl | rfl | rfl <;> rfl
def putI (now : List Int) (i v : Int) : List Int := (now.take i.toNat ++ [v]) ++ now.drop (i + 1).toNat
def sureS (ps : List Int) (T : Rows3) (s m : List Int) (n : Int) : Nat → Int → Int → List Int → Bool
  | 0, i, left, now => decide (0 ≤ (getT T left).getD (numW ps now 0).toNat 0) && decide ((getT T left).getD (numW ps now 0).toNat 0 < n)
  | k + 1, i, left, now =>
    if sureS ps T s m n k (i + 1) left (putI now i (IntKind.wrap IntKind.i64 (s.getD i.toNat 0 + m.getD i.toNat 0))) = false then false
    else if m.getD i.toNat 0 = 0 ∨ left = 0 then true
    else sureS ps T s m n k (i + 1) (left - 1) (putI now i (s.getD i.toNat 0))
def okQ (ps : List Int) (T : Rows3) (n : Int) (y : List Int × Nat) : Bool := decide (0 ≤ (getT T y.2).getD (numW ps y.1 0).toNat 0) && decide ((getT T y.2).getD (numW ps y.1 0).toNat 0 < n)
theorem putI_mid (a b : List Int) (x v : Int) : putI (a ++ x :: b) a.length v = (a ++ [v]) ++ b := by
  unfold putI
  rw [Int.toNat_natCast, List.take_left, show ((a.length : Int) + 1).toNat = a.length + 1 by omega, show a ++ x :: b = (a ++ [x]) ++ b by simp, show a.length + 1 = (a ++ [x]).length by simp, List.drop_left]
theorem sureS_all (ps : List Int) (T : Rows3) (n : Int) : ∀ (s2 m2 s1 m1 r1 : List Int) (left : Nat), s2.length = m2.length → s1.length = m1.length → r1.length = s1.length → smallM s2 m2 →
    sureS ps T (s1 ++ s2) (m1 ++ m2) n s2.length (s1.length : Int) (left : Int) (r1 ++ s2) = (nexts s2 m2 left).all (fun y => okQ ps T n (r1 ++ y.1, y.2))
  | [], [], s1, m1, r1, left, _, _, _, _ => by
    rw [nexts_nil, List.all_cons, List.all_nil, Bool.and_true]
    rfl
  | [], _ :: _, _, _, _, _, h, _, _, _ => by simp at h
  | _ :: _, [], _, _, _, _, h, _, _, _ => by simp at h
  | p :: s2, x :: m2, s1, m1, r1, left, h1, h2, h3, h4 => by
    have hw := h4.1
    have e1 : (s1 ++ p :: s2).getD (s1.length : Int).toNat 0 = p := by rw [Int.toNat_natCast, getD_mid]
    have e2 : (m1 ++ x :: m2).getD (s1.length : Int).toNat 0 = x := by rw [Int.toNat_natCast, h2, getD_mid]
    have e3 : ∀ v, putI (r1 ++ p :: s2) (s1.length : Int) v = (r1 ++ [v]) ++ s2 := fun v => by rw [← h3]; exact putI_mid _ _ _ _
    have ih : ∀ (v : Int) (l : Nat), sureS ps T (s1 ++ p :: s2) (m1 ++ x :: m2) n s2.length ((s1.length : Int) + 1) (l : Int) ((r1 ++ [v]) ++ s2) = (nexts s2 m2 l).all (fun y => okQ ps T n (r1 ++ v :: y.1, y.2)) := fun v l => by
      have := sureS_all ps T n s2 m2 (s1 ++ [p]) (m1 ++ [x]) (r1 ++ [v]) l (by simpa using h1) (by simp [h2]) (by simp [h3]) h4.2
      simp only [List.append_assoc, List.singleton_append, List.length_append, List.length_singleton] at this ⊢
      rw [show ((s1.length : Int) + 1) = ((s1.length + 1 : Nat) : Int) by omega]
      exact this
    rw [List.length_cons, sureS, e1, e2, hw, e3, e3, ih, nexts_cons, List.all_append, List.all_map]
    have e4 : (nexts s2 m2 left).all ((fun y => okQ ps T n (r1 ++ y.1, y.2)) ∘ fun y => ((p + x) :: y.1, y.2)) = (nexts s2 m2 left).all (fun y => okQ ps T n (r1 ++ (p + x) :: y.1, y.2)) := rfl
    rw [e4]
    cases (nexts s2 m2 left).all (fun y => okQ ps T n (r1 ++ (p + x) :: y.1, y.2)) with
    | false => rw [if_pos rfl, Bool.false_and]
    | true =>
      rw [if_neg (by decide), Bool.true_and]
      by_cases hx : x = 0
      · rw [if_pos (.inl hx), if_pos hx, List.all_nil]
      · rw [if_neg hx]
        cases left with
        | zero => rw [if_pos (.inr rfl), List.all_nil]
        | succ l =>
          rw [if_neg (by omega), show ((l + 1 : Nat) : Int) - 1 = (l : Int) by omega, ih, List.all_map]
          rfl
def sure0 (ps : List Int) (T : Rows3) (s : List Int) (left n : Int) (m : List Int) : Bool := sureS ps T s m n s.length 0 left s
theorem sure0_all {ps : List Int} {T : Rows3} {s m : List Int} {left : Nat} {n : Int} (hl : s.length = m.length) (hs : smallM s m) : sure0 ps T s left n m = (nexts s m left).all (okQ ps T n) := by
  have := sureS_all ps T n s m [] [] [] left hl rfl rfl hs
  exact this
def bestT (ps : List Int) (T : Rows3) (s : List Int) (l : List (List Int)) (left n : Int) : List Int := firstM (sure0 ps T s left n) l
theorem bestT_any {ps : List Int} {T : Rows3} {s : List Int} {l : List (List Int)} {left n : Int} (h : ∀ m ∈ l, m ≠ []) : (!(bestT ps T s l left n).isEmpty) = l.any (sure0 ps T s left n) := by
  unfold bestT
  cases c : l.any (sure0 ps T s left n) with
  | true =>
    have := h _ (firstM_mem c).1
    cases e2 : firstM (sure0 ps T s left n) l with
    | nil => exact absurd e2 this
    | cons _ _ => rfl
  | false => rw [firstM_nil c]; rfl
def mvsT (ps : List Int) (bs : List Ban) : Nat → Int → List (List (List Int)) → List (List (List Int))
  | 0, _, mv => mv
  | k + 1, i, mv => mvsT ps bs k (i + 1) (mv.set i.toNat (movesS (ps, bs) (stS ps i)))
def fillV (ps : List Int) (g : List (Int × Int)) (mv : List (List (List Int))) (i : Int) : Int := if (decide (((mv.getD i.toNat []).length : Int) > 0) && inG (stS ps i) g) = true then 0 else -1
def fillT (ps : List Int) (g : List (Int × Int)) (mv : List (List (List Int))) : Nat → Int → List Int → List Int
  | 0, _, row => row
  | k + 1, i, row => fillT ps g mv k (i + 1) (row.set i.toNat (fillV ps g mv i))
def goodT (ps : List Int) (mv : List (List (List Int))) (T : Rows3) (k d i : Int) : Bool :=
  decide ((getT T k).getD i.toNat 0 < 0) && !(bestT ps T (stS ps i) (mv.getD i.toNat []) k d).isEmpty
def fndT (ps : List Int) (mv : List (List (List Int))) (T : Rows3) (k d : Int) : Nat → Int → List Int → List Int
  | 0, _, f => f
  | j + 1, i, f => fndT ps mv T k d j (i + 1) (if goodT ps mv T k d i = true then f ++ [i] else f)
def putT (d : Int) : List Int → List Int → List Int
  | i :: f, row => putT d f (row.set i.toNat d)
  | [], row => row
theorem putT_step {f : List Int} {i d : Int} {row : List Int} (h0 : 0 ≤ i) (h : i < f.length) : putT d (f.drop i.toNat) row = putT d (f.drop (i + 1).toNat) (row.set (f.getD i.toNat 0).toNat d) := by
  rw [drop_step (0 : Int) h0 h, putT]
theorem putT_nil (d : Int) (row : List Int) : putT d [] row = row := rfl
theorem putT_len (d : Int) : ∀ (f row : List Int), (putT d f row).length = row.length
  | [], _ => rfl
  | i :: f, row => by rw [putT, putT_len, List.length_set]
def layT (ps : List Int) (mv : List (List (List Int))) (N k : Int) : Nat → Int → Int → Rows3 → Int × Rows3
  | 0, _, most, T => (most, T)
  | j + 1, d, most, T =>
    if fndT ps mv T k d N.toNat 0 [] = [] ∧ d > most + 1 then (most, setT T k (putT d (fndT ps mv T k d N.toNat 0 []) (getT T k)))
    else layT ps mv N k j (d + 1) (if (fndT ps mv T k d N.toNat 0 []).length > 0 then maxI most d else most) (setT T k (putT d (fndT ps mv T k d N.toNat 0 []) (getT T k)))
def row0 (ps : List Int) (g : List (Int × Int)) (mv : List (List (List Int))) (N k : Int) (T : Rows3) : Rows3 := setT T k (fillT ps g mv N.toNat 0 (List.replicate N.toNat 0))
def madT (ps : List Int) (g : List (Int × Int)) (mv : List (List (List Int))) (N : Int) : Nat → Int → Int → Rows3 → Rows3
  | 0, _, _, T => T
  | j + 1, k, most, T => madT ps g mv N j (k + 1) (layT ps mv N k 64 1 most (row0 ps g mv N k T)).1 (layT ps mv N k 64 1 most (row0 ps g mv N k T)).2
def mvs0 (ps : List Int) (bs : List Ban) : List (List (List Int)) := mvsT ps bs (manyW ps 1).toNat 0 (List.replicate (manyW ps 1).toNat [])
def madeT (ps : List Int) (bs : List Ban) (g : List (Int × Int)) (losses : Int) : Rows3 := madT ps g (mvs0 ps bs) (manyW ps 1) (losses + 1).toNat 0 0 ([], [], [])
theorem mvsT_len (ps : List Int) (bs : List Ban) : ∀ (k : Nat) (i : Int) (mv : List (List (List Int))), (mvsT ps bs k i mv).length = mv.length
  | 0, _, _ => rfl
  | k + 1, i, mv => by rw [mvsT, mvsT_len, List.length_set]
theorem setL_get {α : Type} {l : List α} {i j : Nat} {v d : α} : (l.set i v).getD j d = if j = i ∧ i < l.length then v else l.getD j d := by
  rw [List.getD_eq_getElem?_getD, List.getElem?_set, List.getD_eq_getElem?_getD]
  by_cases e : i = j
  · subst e
    by_cases h : i < l.length
    · rw [if_pos rfl, if_pos h, if_pos ⟨rfl, h⟩]; rfl
    · rw [if_pos rfl, if_neg h, if_neg (fun c => h c.2), List.getElem?_eq_none (by omega)]
  · rw [if_neg e, if_neg (fun c => e c.1.symm)]
theorem mvsT_get {ps : List Int} {bs : List Ban} : ∀ (k : Nat) (i : Int) (mv : List (List (List Int))) (n : Int), 0 ≤ i → i + k ≤ mv.length → 0 ≤ n → (mvsT ps bs k i mv).getD n.toNat [] = if i ≤ n ∧ n < i + k then movesS (ps, bs) (stS ps n) else mv.getD n.toNat []
  | 0, i, mv, n, _, _, _ => by rw [if_neg (by omega)]; rfl
  | k + 1, i, mv, n, h0, h1, h2 => by
    rw [mvsT, mvsT_get k (i + 1) _ n (by omega) (by rw [List.length_set]; omega) h2, setL_get]
    by_cases e : n = i
    · subst e
      rw [if_neg (by omega), if_pos ⟨rfl, by omega⟩, if_pos (by omega)]
    · have e' : ¬ (n.toNat = i.toNat ∧ i.toNat < mv.length) := fun c => e (by omega)
      rw [if_neg e']
      by_cases c : i + 1 ≤ n ∧ n < i + 1 + (k : Int)
      · rw [if_pos c, if_pos (by omega)]
      · rw [if_neg c, if_neg (by omega)]
theorem mvs0_get {ps : List Int} {bs : List Ban} (h : RgOk ps bs) {n : Int} (h0 : 0 ≤ n) (h1 : n < prodL ps) : (mvs0 ps bs).getD n.toNat [] = movesS (ps, bs) (stS ps n) := by
  have hp := h.pr
  unfold mvs0
  rw [mvsT_get _ _ _ _ (by omega) (by rw [List.length_replicate]; omega) h0, h.many, if_pos (by omega)]
theorem fillT_len (ps : List Int) (g : List (Int × Int)) (mv : List (List (List Int))) : ∀ (k : Nat) (i : Int) (row : List Int), (fillT ps g mv k i row).length = row.length
  | 0, _, _ => rfl
  | k + 1, i, row => by rw [fillT, fillT_len, List.length_set]
theorem fillT_get {ps : List Int} {g : List (Int × Int)} {mv : List (List (List Int))} : ∀ (k : Nat) (i : Int) (row : List Int) (n : Int), 0 ≤ i → i + k ≤ row.length → 0 ≤ n → (fillT ps g mv k i row).getD n.toNat 0 = if i ≤ n ∧ n < i + k then fillV ps g mv n else row.getD n.toNat 0
  | 0, i, row, n, _, _, _ => by rw [if_neg (by omega)]; rfl
  | k + 1, i, row, n, h0, h1, h2 => by
    rw [fillT, fillT_get k (i + 1) _ n (by omega) (by rw [List.length_set]; omega) h2, setL_get]
    by_cases e : n = i
    · subst e
      rw [if_neg (by omega), if_pos ⟨rfl, by omega⟩, if_pos (by omega)]
    · have e' : ¬ (n.toNat = i.toNat ∧ i.toNat < row.length) := fun c => e (by omega)
      rw [if_neg e']
      by_cases c : i + 1 ≤ n ∧ n < i + 1 + (k : Int)
      · rw [if_pos c, if_pos (by omega)]
      · rw [if_neg c, if_neg (by omega)]
theorem fndT_mem {ps : List Int} {mv : List (List (List Int))} {T : Rows3} {k d : Int} : ∀ (j : Nat) (i : Int) (f : List Int) (x : Int), x ∈ fndT ps mv T k d j i f ↔ x ∈ f ∨ (i ≤ x ∧ x < i + j ∧ goodT ps mv T k d x = true)
  | 0, i, f, x => by
    rw [fndT]
    exact ⟨.inl, fun h => h.elim id (fun h => by omega)⟩
  | j + 1, i, f, x => by
    rw [fndT, fndT_mem j (i + 1) _ x]
    have key : x ∈ (if goodT ps mv T k d i = true then f ++ [i] else f) ↔ x ∈ f ∨ (x = i ∧ goodT ps mv T k d x = true) := by
      by_cases c : goodT ps mv T k d i = true
      · rw [if_pos c, List.mem_append, List.mem_singleton]
        constructor
        · rintro (h | rfl)
          · exact .inl h
          · exact .inr ⟨rfl, c⟩
        · rintro (h | ⟨h1, h2⟩)
          · exact .inl h
          · exact .inr h1
      · rw [if_neg c]
        exact ⟨.inl, fun h => h.elim id (fun h => by rw [h.1] at h; exact absurd h.2 c)⟩
    rw [key]
    constructor
    · rintro ((h | ⟨h1, h2⟩) | ⟨h2, h3, h4⟩)
      · exact .inl h
      · exact .inr ⟨by omega, by omega, h2⟩
      · exact .inr ⟨by omega, by omega, h4⟩
    · rintro (h | ⟨h2, h3, h4⟩)
      · exact .inl (.inl h)
      · by_cases e : x = i
        · exact .inl (.inr ⟨e, h4⟩)
        · exact .inr ⟨by omega, by omega, h4⟩
theorem fndT_len (ps : List Int) (mv : List (List (List Int))) (T : Rows3) (k d : Int) : ∀ (j : Nat) (i : Int) (f : List Int), (fndT ps mv T k d j i f).length ≤ f.length + j
  | 0, i, f => Nat.le_refl _
  | j + 1, i, f => by
    rw [fndT]
    have := fndT_len ps mv T k d j (i + 1) (if goodT ps mv T k d i = true then f ++ [i] else f)
    split at this
    · rename_i c
      rw [if_pos c]
      rw [List.length_append, List.length_singleton] at this; omega
    · rename_i c
      rw [if_neg c]; omega
theorem putT_get {d : Int} : ∀ (f row : List Int) (n : Int), 0 ≤ n → (∀ x ∈ f, 0 ≤ x ∧ x < row.length) → (putT d f row).getD n.toNat 0 = if n ∈ f then d else row.getD n.toNat 0
  | [], row, n, _, _ => by rw [if_neg (by simp)]; rfl
  | x :: f, row, n, h0, h => by
    obtain ⟨x0, x1⟩ := h x (by simp)
    rw [putT, putT_get f _ n h0 (fun y hy => by rw [List.length_set]; exact h y (List.mem_cons_of_mem _ hy)), setL_get]
    by_cases c : n ∈ f
    · rw [if_pos c, if_pos (List.mem_cons_of_mem _ c)]
    · rw [if_neg c]
      by_cases e : n = x
      · subst e
        rw [if_pos ⟨rfl, by omega⟩, if_pos (by simp)]
      · rw [if_neg (fun q => e (by omega)), if_neg (fun q => by rcases List.mem_cons.1 q with q | q; exact e q; exact c q)]
theorem lst_succ (p : Nat → Bool) (n : Nat) : lst p (n + 1) = if 0 ≤ lst p n then lst p n else if p n = true then (n : Int) else -1 := rfl
theorem okM_zero {r : Rig} {s : List Int} (hc : checkS r = 0) (hs : VS r.1 s) : decide (((movesS r s).length : Int) > 0) = safeS r.1 r.2 s := by
  have e := Sf.state.state_of' hc hs
  cases hb : safeS r.1 r.2 s with
  | true =>
    have hf : Sf r s := ⟨hc, hs, hb⟩
    obtain ⟨z1, z2, z3⟩ := zero_ok hf
    have hm := (movesS_mem hf.state).2 ⟨mem_allM (z2.trans hs.sl.symm) z1, z3⟩
    have := List.length_pos_of_mem hm
    exact decide_eq_true (by omega)
  | false =>
    rw [hb, if_neg (by decide)] at e
    unfold movesS
    rw [if_pos (by rw [e]; decide)]
    rfl
theorem moves_any {r : Rig} {s : List Int} (hc : checkS r = 0) (hs : VS r.1 s) (q : List Int → Bool) : (movesS r s).any q = (safeS r.1 r.2 s && (allM s.length).any fun m => okM r.1 r.2 s m && q m) := by
  have e := Sf.state.state_of' hc hs
  unfold movesS
  cases hb : safeS r.1 r.2 s with
  | true =>
    rw [hb, if_pos rfl] at e
    rw [if_neg (by rw [e]; simp), List.any_filter, Bool.true_and]
  | false =>
    rw [hb, if_neg (by decide)] at e
    rw [if_pos (by rw [e]; decide), Bool.false_and]
    rfl
structure InvU (ps : List Int) (bs : List Ban) (g : List (Int × Int)) (k d : Nat) (most : Int) (T : Rows3) : Prop where
  len : (getT T k).length = (prodL ps).toNat
  cur : ∀ s, VS ps s → (getT T k).getD (numW ps s 0).toNat 0 = lst (fun e => reD ps bs g e k s) d
  low : ∀ l : Nat, l < k → ∀ s, VS ps s → (getT T l).getD (numW ps s 0).toNat 0 = tickD ps bs g l s
  m0 : 0 ≤ most
  mlow : ∀ l : Nat, l < k → ∀ s, VS ps s → tickD ps bs g l s ≤ most
  mcur : ∀ s, VS ps s → lst (fun e => reD ps bs g e k s) d ≤ most
theorem okQ_eq {ps : List Int} {bs : List Ban} {g : List (Int × Int)} {k e : Nat} {most : Int} {T : Rows3} (hI : InvU ps bs g k (e + 1) most T) (he : e < 65) {y : List Int × Nat} (hy : VS ps y.1) (hk : y.2 ≤ k) :
    okQ ps T ((e + 1 : Nat) : Int) y = reD ps bs g e y.2 y.1 := by
  unfold okQ
  rw [Bool.eq_iff_iff, Bool.and_eq_true, decide_eq_true_eq, decide_eq_true_eq]
  by_cases c : y.2 = k
  · rw [c, hI.cur _ hy]
    have := lst_le (p := fun e => reD ps bs g e k y.1) (fun d h => reD_mono d h) (n := e + 1) (d := e) (by omega)
    rw [← this]
    omega
  · rw [hI.low _ (by omega) _ hy, ← tick_le he]
    omega
theorem goodT_eq {ps : List Int} {bs : List Ban} {g : List (Int × Int)} {mv : List (List (List Int))} {k e : Nat} {most : Int} {T : Rows3} (hc : checkS (ps, bs) = 0) (h : RgOk ps bs)
    (hmv : ∀ n : Int, 0 ≤ n → n < prodL ps → mv.getD n.toNat [] = movesS (ps, bs) (stS ps n)) (hI : InvU ps bs g k (e + 1) most T) (he : e < 65) {s : List Int} (hs : VS ps s) :
    goodT ps mv T (k : Int) ((e + 1 : Nat) : Int) (numW ps s 0) = (!reD ps bs g e k s && reD ps bs g (e + 1) k s) := by
  obtain ⟨n1, n2, n3⟩ := h.num hs
  have sl := hs.sl
  have l2 := h.l2
  unfold goodT
  rw [hI.cur s hs, n1, hmv _ n2 n3, n1, bestT_any (fun m hm => ?_), moves_any hc hs]
  · have e1 : ((allM s.length).any fun m => okM ps bs s m && sure0 ps T s (k : Int) ((e + 1 : Nat) : Int) m) = anyD ps bs g e k s := by
      unfold anyD
      refine any_congr fun m hm => ?_
      cases ho : okM ps bs s m with
      | false => rfl
      | true =>
        have hml := allM_len hm
        have hmi := allM_is hm
        rw [Bool.true_and, Bool.true_and, sure0_all hml.symm (small_of h.pb hs.sl hs.si hmi)]
        unfold okM at ho
        rw [Bool.and_eq_true] at ho
        refine all_congr fun y hy => ?_
        obtain ⟨v1, v2⟩ := nexts_vs h.pb hs.sl (by omega) hs.si hmi (waysS_ok ho.1) hy
        exact okQ_eq hI he v1 v2
    rw [e1]
    have hmn := lst_mono (p := fun d => reD ps bs g d k s) (fun d h => reD_mono d h) (n := e)
    rw [reD, ← hmn]
    have e3 : decide (lst (fun d => reD ps bs g d k s) (e + 1) < 0) = !decide (0 ≤ lst (fun d => reD ps bs g d k s) (e + 1)) := by
      by_cases c : 0 ≤ lst (fun d => reD ps bs g d k s) (e + 1)
      · rw [decide_eq_true c, decide_eq_false (by omega)]; rfl
      · rw [decide_eq_false c, decide_eq_true (by omega)]; rfl
    rw [e3]
    show (!decide _ && (safeS ps bs s && anyD ps bs g e k s)) = (!decide _ && (decide _ || (safeS ps bs s && anyD ps bs g e k s)))
    cases decide (0 ≤ lst (fun d => reD ps bs g d k s) (e + 1)) <;> cases safeS ps bs s <;> cases anyD ps bs g e k s <;> rfl
  · rintro rfl
    unfold movesS at hm
    split at hm
    · cases hm
    · have := allM_len (List.mem_filter.1 hm).1
      simp at this
      omega
theorem layT_ok {ps : List Int} {bs : List Ban} {g : List (Int × Int)} {mv : List (List (List Int))} {k : Nat} (hk : k ≤ 2) (hc : checkS (ps, bs) = 0) (h : RgOk ps bs)
    (hmv : ∀ n : Int, 0 ≤ n → n < prodL ps → mv.getD n.toNat [] = movesS (ps, bs) (stS ps n)) : ∀ (j e : Nat) (most : Int) (T : Rows3), e + 1 + j = 65 → InvU ps bs g k (e + 1) most T →
    InvU ps bs g k 65 (layT ps mv (prodL ps) (k : Int) j ((e + 1 : Nat) : Int) most T).1 (layT ps mv (prodL ps) (k : Int) j ((e + 1 : Nat) : Int) most T).2
  | 0, e, most, T, he, hI => by
    rw [show e + 1 = 65 by omega] at hI ⊢
    exact hI
  | j + 1, e, most, T, he, hI => by
    have hp := h.pr
    have hfm : ∀ x, x ∈ fndT ps mv T (k : Int) ((e + 1 : Nat) : Int) (prodL ps).toNat 0 [] ↔ 0 ≤ x ∧ x < prodL ps ∧ goodT ps mv T (k : Int) ((e + 1 : Nat) : Int) x = true := fun x => by
      rw [fndT_mem]
      constructor
      · rintro (q | q)
        · cases q
        · exact ⟨q.1, by omega, q.2.2⟩
      · rintro ⟨q1, q2, q3⟩
        exact .inr ⟨q1, by omega, q3⟩
    have hg : ∀ s, VS ps s → (numW ps s 0 ∈ fndT ps mv T (k : Int) ((e + 1 : Nat) : Int) (prodL ps).toNat 0 [] ↔ reD ps bs g e k s = false ∧ reD ps bs g (e + 1) k s = true) := fun s hs => by
      obtain ⟨n1, n2, n3⟩ := h.num hs
      rw [hfm, goodT_eq hc h hmv hI (by omega) hs, Bool.and_eq_true, Bool.not_eq_true']
      exact ⟨fun q => q.2.2, fun q => ⟨n2, n3, q⟩⟩
    rw [layT]
    generalize fndT ps mv T (k : Int) ((e + 1 : Nat) : Int) (prodL ps).toNat 0 [] = f at *
    have hrow : ∀ (l : Nat), l ≤ 2 → getT (setT T (k : Int) (putT ((e + 1 : Nat) : Int) f (getT T (k : Int)))) (l : Int) = if l = k then putT ((e + 1 : Nat) : Int) f (getT T (k : Int)) else getT T (l : Int) := fun l hl => by
      rw [getT_set ⟨by omega, by omega⟩ ⟨by omega, by omega⟩]
      by_cases q : l = k
      · rw [if_pos q, if_pos (by omega)]
      · rw [if_neg q, if_neg (by omega)]
    have hfr : ∀ x ∈ f, 0 ≤ x ∧ x < (getT T (k : Int)).length := fun x hx => by
      have := (hfm x).1 hx
      rw [hI.len]; omega
    have hput : ∀ s, VS ps s → (putT ((e + 1 : Nat) : Int) f (getT T (k : Int))).getD (numW ps s 0).toNat 0 = if numW ps s 0 ∈ f then ((e + 1 : Nat) : Int) else lst (fun e => reD ps bs g e k s) (e + 1) := fun s hs => by
      rw [putT_get f _ _ (h.num hs).2.1 hfr, hI.cur s hs]
    have hmn : ∀ s, decide (0 ≤ lst (fun d => reD ps bs g d k s) (e + 1)) = reD ps bs g e k s := fun s => lst_mono (p := fun d => reD ps bs g d k s) (fun d h => reD_mono d h) (n := e)
    split
    · rename_i hb
      obtain ⟨b1, b2⟩ := hb
      have hst : ∀ (l : Nat) (s : List Int), l ≤ k → VS ps s → reD ps bs g (e + 1) l s = reD ps bs g e l s := fun l s hl hs => by
        cases c0 : reD ps bs g e l s with
        | true => exact reD_mono e c0
        | false =>
          cases c1 : reD ps bs g (e + 1) l s with
          | false => rfl
          | true =>
            exfalso
            by_cases q : l = k
            · subst q
              have := (hg s hs).2 ⟨c0, c1⟩
              rw [b1] at this
              cases this
            · have t1 := (tick_le (d := e + 1) (by omega)).2 c1
              have t2 := hI.mlow l (by omega) s hs
              have t3 := (tick_le (ps := ps) (bs := bs) (g := g) (l := l) (s := s) (d := e) (by omega)).1 ⟨t1.1, by omega⟩
              rw [c0] at t3
              cases t3
      have hsame : ∀ s, VS ps s → lst (fun e => reD ps bs g e k s) 65 = lst (fun e => reD ps bs g e k s) (e + 1) := fun s hs =>
        lst_same (p := fun e => reD ps bs g e k s) (n := e + 1) (fun d hd hpd => by
          have q := reD_stop h hst (d - e) k s (Nat.le_refl _) hs
          rw [show e + (d - e) = d by omega] at q
          have hpd' : reD ps bs g d k s = true := hpd
          rw [q, ← hmn s, decide_eq_true_eq] at hpd'
          exact hpd') 65 (by omega)
      refine ⟨?_, fun s hs => ?_, fun l hl s hs => ?_, hI.m0, hI.mlow, fun s hs => ?_⟩
      · rw [hrow k hk, if_pos rfl, putT_len]; exact hI.len
      · rw [hrow k hk, if_pos rfl, hput s hs, hsame s hs, b1, if_neg (by simp)]
      · rw [hrow l (by omega), if_neg (by omega)]; exact hI.low l hl s hs
      · rw [hsame s hs]; exact hI.mcur s hs
    · have hmost : most ≤ (if f.length > 0 then maxI most ((e + 1 : Nat) : Int) else most) := by
        split
        · unfold maxI; split <;> omega
        · omega
      rw [show (((e + 1 : Nat) : Int) + 1) = ((e + 1 + 1 : Nat) : Int) by omega]
      have hnew : ∀ s, VS ps s → (putT ((e + 1 : Nat) : Int) f (getT T (k : Int))).getD (numW ps s 0).toNat 0 = lst (fun e => reD ps bs g e k s) (e + 1 + 1) := fun s hs => by
        rw [hput s hs, lst_succ _ (e + 1)]
        have hm1 := hmn s
        have hl1 := lst_lt (fun e => reD ps bs g e k s) (e + 1)
        by_cases q : numW ps s 0 ∈ f
        · obtain ⟨q1, q2⟩ := (hg s hs).1 q
          rw [if_pos q]
          rw [q1, decide_eq_false_iff_not] at hm1
          rw [if_neg hm1, if_pos q2]
        · rw [if_neg q]
          by_cases z : 0 ≤ lst (fun e => reD ps bs g e k s) (e + 1)
          · rw [if_pos z]
          · rw [if_neg z]
            rw [decide_eq_false z] at hm1
            have : ¬ reD ps bs g (e + 1) k s = true := fun w => q ((hg s hs).2 ⟨hm1.symm, w⟩)
            rw [if_neg this]
            omega
      refine layT_ok hk hc h hmv j (e + 1) _ _ (by omega) ⟨?_, fun s hs => ?_, fun l hl s hs => ?_, ?_, fun l hl s hs => ?_, fun s hs => ?_⟩
      · rw [hrow k hk, if_pos rfl, putT_len]; exact hI.len
      · rw [hrow k hk, if_pos rfl, hnew s hs]
      · rw [hrow l (by omega), if_neg (by omega)]; exact hI.low l hl s hs
      · have := hI.m0; omega
      · have := hI.mlow l hl s hs; omega
      · rw [← hnew s hs, hput s hs]
        by_cases q : numW ps s 0 ∈ f
        · rw [if_pos q, if_pos (List.length_pos_of_mem q)]
          unfold maxI; split <;> omega
        · rw [if_neg q]
          have := hI.mcur s hs; omega
theorem row0_ok {ps : List Int} {bs : List Ban} {g : List (Int × Int)} {mv : List (List (List Int))} {k : Nat} (hk : k ≤ 2) (hc : checkS (ps, bs) = 0) (h : RgOk ps bs)
    (hmv : ∀ n : Int, 0 ≤ n → n < prodL ps → mv.getD n.toNat [] = movesS (ps, bs) (stS ps n)) {most : Int} {T : Rows3} (h0 : 0 ≤ most)
    (hlow : ∀ l : Nat, l < k → ∀ s, VS ps s → (getT T l).getD (numW ps s 0).toNat 0 = tickD ps bs g l s ∧ tickD ps bs g l s ≤ most) :
    InvU ps bs g k 1 most (row0 ps g mv (prodL ps) (k : Int) T) := by
  have hp := h.pr
  have hrow : ∀ (l : Nat), l ≤ 2 → getT (row0 ps g mv (prodL ps) (k : Int) T) (l : Int) = if l = k then fillT ps g mv (prodL ps).toNat 0 (List.replicate (prodL ps).toNat 0) else getT T (l : Int) := fun l hl => by
    unfold row0
    rw [getT_set ⟨by omega, by omega⟩ ⟨by omega, by omega⟩]
    by_cases q : l = k
    · rw [if_pos q, if_pos (by omega)]
    · rw [if_neg q, if_neg (by omega)]
  have hv : ∀ s, VS ps s → (fillT ps g mv (prodL ps).toNat 0 (List.replicate (prodL ps).toNat 0)).getD (numW ps s 0).toNat 0 = lst (fun e => reD ps bs g e k s) 1 := fun s hs => by
    obtain ⟨n1, n2, n3⟩ := h.num hs
    rw [fillT_get _ _ _ _ (by omega) (by rw [List.length_replicate]; omega) n2, if_pos ⟨n2, by omega⟩]
    unfold fillV
    rw [n1, hmv _ n2 n3, n1, okM_zero hc hs]
    show _ = if (0 : Int) ≤ -1 then (-1 : Int) else if (safeS ps bs s && inG s g) = true then ((0 : Nat) : Int) else -1
    rw [if_neg (show ¬ (0 : Int) ≤ -1 by omega)]
    rfl
  refine ⟨?_, fun s hs => ?_, fun l hl s hs => ?_, h0, fun l hl s hs => (hlow l hl s hs).2, fun s hs => ?_⟩
  · rw [hrow k hk, if_pos rfl, fillT_len, List.length_replicate]
  · rw [hrow k hk, if_pos rfl, hv s hs]
  · rw [hrow l (by omega), if_neg (by omega)]; exact (hlow l hl s hs).1
  · have := lst_lt (fun e => reD ps bs g e k s) 1; omega
theorem madT_ok {ps : List Int} {bs : List Ban} {g : List (Int × Int)} {mv : List (List (List Int))} {losses : Nat} (hlo : losses ≤ 2) (hc : checkS (ps, bs) = 0) (h : RgOk ps bs)
    (hmv : ∀ n : Int, 0 ≤ n → n < prodL ps → mv.getD n.toNat [] = movesS (ps, bs) (stS ps n)) : ∀ (j k : Nat) (most : Int) (T : Rows3), k + j = losses + 1 → 0 ≤ most →
    (∀ l : Nat, l < k → ∀ s, VS ps s → (getT T l).getD (numW ps s 0).toNat 0 = tickD ps bs g l s ∧ tickD ps bs g l s ≤ most) →
    ∀ l : Nat, l ≤ losses → ∀ s, VS ps s → (getT (madT ps g mv (prodL ps) j (k : Int) most T) l).getD (numW ps s 0).toNat 0 = tickD ps bs g l s
  | 0, k, most, T, hk, h0, hlow, l, hl, s, hs => (hlow l (by omega) s hs).1
  | j + 1, k, most, T, hk, h0, hlow, l, hl, s, hs => by
    have hI := layT_ok (by omega) hc h hmv 64 0 most _ rfl (row0_ok (by omega) hc h hmv h0 hlow)
    rw [madT, show ((k : Int) + 1) = ((k + 1 : Nat) : Int) by omega]
    rw [show ((0 + 1 : Nat) : Int) = 1 from rfl] at hI
    refine madT_ok hlo hc h hmv j (k + 1) _ _ (by omega) hI.m0 (fun l hl s hs => ?_) l hl s hs
    by_cases q : l = k
    · subst q
      exact ⟨hI.cur s hs, hI.mcur s hs⟩
    · exact ⟨hI.low l (by omega) s hs, hI.mlow l (by omega) s hs⟩
theorem madeT_ok {ps : List Int} {bs : List Ban} {g : List (Int × Int)} {losses : Nat} (hlo : losses ≤ 2) (hc : checkS (ps, bs) = 0) {l : Nat} (hl : l ≤ losses) {s : List Int} (hs : VS ps s) :
    (getT (madeT ps bs g (losses : Int)) l).getD (numW ps s 0).toNat 0 = tickD ps bs g l s := by
  obtain ⟨k1, k2, k3, k4, k5⟩ := checkS_ok hc
  have h : RgOk ps bs := ⟨k1, k2, k3⟩
  unfold madeT
  rw [h.many, show ((losses : Int) + 1).toNat = losses + 1 by omega]
  exact madT_ok hlo hc h (fun n h0 h1 => mvs0_get h h0 h1) (losses + 1) 0 0 _ (by omega) (by omega) (fun l hl => by omega) l hl s hs
end
end Go.MR
