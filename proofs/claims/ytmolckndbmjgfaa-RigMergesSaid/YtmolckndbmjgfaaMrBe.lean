/- Merge: the program's order and the reference's; plain laws. -/
import Derived.Test.YtmolckndbmjgfaaMrBd
namespace Go.MR
open Go Go.Sx Go.Proofs
set_option linter.unusedVariables false
set_option linter.unusedSimpArgs false
noncomputable section
def insRv (lt : Int → Int → Bool) (x : Int) : List Int → List Int
  | [] => [x]
  | p :: r => if lt x p = true then p :: insRv lt x r else x :: p :: r
theorem insRv_len (lt : Int → Int → Bool) (x : Int) : ∀ rv : List Int, (insRv lt x rv).length = rv.length + 1
  | [] => rfl
  | p :: r => by
    rw [insRv]
    split
    · rw [List.length_cons, insRv_len lt x r, List.length_cons]
    · rfl
theorem insRv_mem (lt : Int → Int → Bool) (x y : Int) : ∀ rv : List Int, y ∈ insRv lt x rv ↔ y = x ∨ y ∈ rv
  | [] => by rw [insRv, List.mem_singleton]; simp
  | p :: r => by
    rw [insRv]
    split
    · rw [List.mem_cons, insRv_mem lt x y r, List.mem_cons]
      constructor
      · rintro (h | h | h)
        · exact .inr (.inl h)
        · exact .inl h
        · exact .inr (.inr h)
      · rintro (h | h | h)
        · exact .inr (.inl h)
        · exact .inl h
        · exact .inr (.inr h)
    · rw [List.mem_cons]
theorem get_mid (a b : List Int) (x : Int) : (a ++ x :: b).getD a.length 0 = x := by
  rw [List.getD_eq_getElem?_getD, List.getElem?_append_right (Nat.le_refl _), Nat.sub_self]; rfl
theorem set_mid (a b : List Int) (x v : Int) : (a ++ x :: b).set a.length v = a ++ v :: b := by
  rw [List.set_append_right _ _ (Nat.le_refl _), Nat.sub_self]; rfl
theorem insJ_list (lt : Int → Int → Bool) : ∀ (rv : List Int) (x : Int) (post : List Int), insJ lt 0 rv.length (rv.length : Int) (rv.reverse ++ x :: post) = (insRv lt x rv).reverse ++ post
  | [], x, post => by
    rw [List.length_nil, insJ, insRv]
    rfl
  | p :: r, x, post => by
    have hl : r.reverse.length = r.length := List.length_reverse
    have e0 : (p :: r).reverse ++ x :: post = r.reverse ++ p :: x :: post := by rw [List.reverse_cons, List.append_assoc]; rfl
    have e0' : r.reverse ++ p :: x :: post = (r.reverse ++ [p]) ++ x :: post := by rw [List.append_assoc]; rfl
    have hl' : (r.reverse ++ [p]).length = r.length + 1 := by rw [List.length_append, hl]; rfl
    have g1 : (r.reverse ++ p :: x :: post).getD (r.length + 1) 0 = x := by rw [e0', ← hl']; exact get_mid _ _ _
    have g2 : (r.reverse ++ p :: x :: post).getD r.length 0 = p := by rw [← hl]; exact get_mid _ _ _
    have t1 : (((p :: r).length : Nat) : Int).toNat = r.length + 1 := by rw [List.length_cons]; omega
    have t2 : ((((p :: r).length : Nat) : Int) - 1).toNat = r.length := by rw [List.length_cons]; omega
    have t3 : (((p :: r).length : Nat) : Int) - 1 = (r.length : Int) := by rw [List.length_cons]; omega
    have t4 : decide ((((p :: r).length : Nat) : Int) > 0) = true := decide_eq_true (by rw [List.length_cons]; omega)
    rw [e0]
    show insJ lt 0 (r.length + 1) _ _ = _
    rw [insJ, t1, t2, t4, g1, g2, Bool.true_and, insRv]
    by_cases c : lt x p = true
    · rw [if_pos c, if_pos c, t3]
      have es : swp (r.reverse ++ p :: x :: post) (((p :: r).length : Nat) : Int) = r.reverse ++ x :: p :: post := by
        unfold swp
        rw [t1, t2, g1, g2, e0', ← hl', set_mid, List.append_assoc]
        show (r.reverse ++ p :: p :: post).set r.length x = _
        rw [← hl, set_mid]
      rw [es, insJ_list lt r x (p :: post), List.reverse_cons, List.append_assoc]
      rfl
    · rw [if_neg c, if_neg c, List.reverse_cons, List.reverse_cons, List.append_assoc, List.append_assoc]
      rfl
theorem isO_list (lt : Int → Int → Bool) : ∀ (post rv : List Int), isO lt 0 post.length (rv.length : Int) (rv.reverse ++ post) = (post.foldl (fun acc x => insRv lt x acc) rv).reverse
  | [], rv => by rw [List.length_nil, isO, List.append_nil]; rfl
  | x :: post, rv => by
    have ih := isO_list lt post (insRv lt x rv)
    rw [insRv_len] at ih
    rw [List.length_cons, isO, show ((rv.length : Int) - 0).toNat = rv.length by omega, insJ_list, show ((rv.length : Int) + 1) = ((rv.length + 1 : Nat) : Int) by omega, ih]
    rfl
def cmpOk (lt : Int → Int → Bool) (R : Int → Int → Prop) (p x : Int) : Prop := (lt x p = true → R x p) ∧ (lt x p = false → R p x)
theorem insRv_pw {lt : Int → Int → Bool} {R : Int → Int → Prop} (tr : ∀ a b c, R a b → R b c → R a c) {x : Int} : ∀ {rv : List Int}, rv.Pairwise (fun a b => R b a) → (∀ p ∈ rv, cmpOk lt R p x) → (insRv lt x rv).Pairwise (fun a b => R b a)
  | [], _, _ => by rw [insRv]; exact List.pairwise_singleton _ _
  | p :: r, h, hx => by
    obtain ⟨h1, h2⟩ := List.pairwise_cons.1 h
    rw [insRv]
    split
    · rename_i c
      refine List.pairwise_cons.2 ⟨fun y hy => ?_, insRv_pw tr h2 fun q hq => hx q (List.mem_cons_of_mem _ hq)⟩
      rcases (insRv_mem lt x y r).1 hy with rfl | hy
      · exact (hx p (by simp)).1 c
      · exact h1 y hy
    · rename_i c
      have c' := (hx p (by simp)).2 (by simpa using c)
      refine List.pairwise_cons.2 ⟨fun y hy => ?_, h⟩
      rcases List.mem_cons.1 hy with rfl | hy
      · exact c'
      · exact tr _ _ _ (h1 y hy) c'
theorem fold_pw {lt : Int → Int → Bool} {R : Int → Int → Prop} (tr : ∀ a b c, R a b → R b c → R a c) : ∀ (post rv : List Int), rv.Pairwise (fun a b => R b a) → (∀ x ∈ post, ∀ p ∈ rv, cmpOk lt R p x) → post.Pairwise (cmpOk lt R) →
    (post.foldl (fun acc x => insRv lt x acc) rv).Pairwise (fun a b => R b a) ∧ ∀ y, y ∈ post.foldl (fun acc x => insRv lt x acc) rv ↔ y ∈ rv ∨ y ∈ post
  | [], rv, h, _, _ => ⟨h, fun y => by simp⟩
  | x :: post, rv, h, h1, h2 => by
    obtain ⟨h3, h4⟩ := List.pairwise_cons.1 h2
    obtain ⟨g1, g2⟩ := fold_pw tr post (insRv lt x rv) (insRv_pw tr h (h1 x (by simp))) (fun y hy p hp => by
      rcases (insRv_mem lt x p rv).1 hp with rfl | hp
      · exact h3 y hy
      · exact h1 y (List.mem_cons_of_mem _ hy) p hp) h4
    refine ⟨g1, fun y => ?_⟩
    rw [List.foldl_cons, g2 y, insRv_mem, List.mem_cons]
    constructor
    · rintro ((h | h) | h)
      · exact .inr (.inl h)
      · exact .inl h
      · exact .inr (.inr h)
    · rintro (h | h | h)
      · exact .inl (.inr h)
      · exact .inl (.inl h)
      · exact .inr h
theorem isort_ok {lt : Int → Int → Bool} {R : Int → Int → Prop} (tr : ∀ a b c, R a b → R b c → R a c) {l : List Int} (hP : l.Pairwise (cmpOk lt R)) :
    (isO lt 0 ((l.length : Int) - 1).toNat 1 l).Pairwise R ∧ ∀ y, y ∈ isO lt 0 ((l.length : Int) - 1).toNat 1 l ↔ y ∈ l := by
  cases l with
  | nil => exact ⟨List.Pairwise.nil, fun y => Iff.rfl⟩
  | cons x l =>
    have e := isO_list lt l [x]
    rw [List.length_cons, show (((l.length + 1 : Nat) : Int) - 1).toNat = l.length by omega]
    have e' : isO lt 0 l.length 1 (x :: l) = (l.foldl (fun acc x => insRv lt x acc) [x]).reverse := e
    rw [e']
    obtain ⟨h3, h4⟩ := List.pairwise_cons.1 hP
    obtain ⟨g1, g2⟩ := fold_pw tr l [x] (List.pairwise_singleton _ _) (fun y hy p hp => by rw [List.mem_singleton.1 hp]; exact h3 y hy) h4
    refine ⟨List.pairwise_reverse.2 g1, fun y => ?_⟩
    rw [List.mem_reverse, g2 y, List.mem_singleton, List.mem_cons]
theorem pw_eq {R : Int → Int → Prop} (asy : ∀ a b, R a b → ¬ R b a) : ∀ {l1 l2 : List Int}, l1.Pairwise R → l2.Pairwise R → (∀ x, x ∈ l1 ↔ x ∈ l2) → l1 = l2
  | [], [], _, _, _ => rfl
  | [], b :: l2, _, _, h => absurd ((h b).2 (by simp)) (by simp)
  | a :: l1, [], _, _, h => absurd ((h a).1 (by simp)) (by simp)
  | a :: l1, b :: l2, h1, h2, h => by
    obtain ⟨a1, a2⟩ := List.pairwise_cons.1 h1
    obtain ⟨b1, b2⟩ := List.pairwise_cons.1 h2
    have e : a = b := by
      rcases List.mem_cons.1 ((h a).1 (by simp)) with e | e
      · exact e
      · rcases List.mem_cons.1 ((h b).2 (by simp)) with e' | e'
        · exact e'.symm
        · exact absurd (a1 b e') (asy _ _ (b1 a e))
    subst e
    have irr : ∀ c, ¬ R c c := fun c hc => asy c c hc hc
    rw [pw_eq asy a2 b2 fun x => ?_]
    constructor
    · intro hx
      rcases List.mem_cons.1 ((h x).1 (List.mem_cons_of_mem _ hx)) with rfl | hx'
      · exact absurd (a1 x hx) (irr x)
      · exact hx'
    · intro hx
      rcases List.mem_cons.1 ((h x).2 (List.mem_cons_of_mem _ hx)) with rfl | hx'
      · exact absurd (b1 x hx) (irr x)
      · exact hx'
def lexR (q : List Req) (i j : Int) : Prop := rkS q i < rkS q j ∨ (rkS q i = rkS q j ∧ i < j)
theorem lexR_tr (q : List Req) : ∀ a b c, lexR q a b → lexR q b c → lexR q a c := fun a b c h1 h2 => by unfold lexR at *; omega
theorem lexR_as (q : List Req) : ∀ a b, lexR q a b → ¬ lexR q b a := fun a b h1 h2 => by unfold lexR at *; omega
theorem cntI_pw : ∀ (k : Nat) (i : Int), (cntI k i).Pairwise (fun a b => a < b)
  | 0, _ => List.Pairwise.nil
  | k + 1, i => by
    rw [cntI]
    refine List.pairwise_cons.2 ⟨fun y hy => ?_, cntI_pw k (i + 1)⟩
    have := (cntI_mem k (i + 1) y).1 hy
    omega
def rkOk (q : List Req) : Prop := ∀ i : Int, 0 ≤ i → i < q.length → 0 ≤ rkS q i ∧ rkS q i ≤ 99
theorem rkOk_of {n : Int} {q : List Req} (h : mrgE n q = 0) : rkOk q := fun i h0 h1 => (mrgE_ok h _ (getD_mem (d := zReq) (show i.toNat < q.length by omega))).2.2
theorem ordS_ok {q : List Req} (h : rkOk q) : (ordS q).Pairwise (lexR q) ∧ ∀ y, y ∈ ordS q ↔ 0 ≤ y ∧ y < q.length := by
  have hP : (cntI q.length 0).Pairwise (cmpOk (ltR q) (lexR q)) := (cntI_pw q.length 0).imp_of_mem fun {p x} hp hx hlt => by
    have p1 := (cntI_mem _ _ _).1 hp
    have x1 := (cntI_mem _ _ _).1 hx
    have r1 := h p (by omega) (by omega)
    have r2 := h x (by omega) (by omega)
    have e : IntKind.wrap IntKind.i64 (rkS q x - rkS q p) = rkS q x - rkS q p := W_id (by omega) (by omega)
    unfold cmpOk ltR lexR
    rw [e]
    refine ⟨fun c => ?_, fun c => ?_⟩
    · have := of_decide_eq_true c; omega
    · have := of_decide_eq_false c; omega
  have := isort_ok (lexR_tr q) hP
  rw [cntI_len] at this
  refine ⟨this.1, fun y => ?_⟩
  rw [show y ∈ ordS q ↔ y ∈ cntI q.length 0 from this.2 y, cntI_mem]
  omega
def rkF (q : List Req) : Nat → Int → List Int
  | 0, _ => []
  | k + 1, rank => (cntI q.length 0).filter (fun i => decide (rkS q i = rank)) ++ rkF q k (rank + 1)
theorem rkF_ok (q : List Req) : ∀ (k : Nat) (rank : Int), (rkF q k rank).Pairwise (lexR q) ∧ ∀ y, y ∈ rkF q k rank ↔ (0 ≤ y ∧ y < q.length) ∧ rank ≤ rkS q y ∧ rkS q y < rank + k
  | 0, rank => ⟨List.Pairwise.nil, fun y => by rw [rkF]; exact ⟨fun h => (by cases h), fun h => by omega⟩⟩
  | k + 1, rank => by
    obtain ⟨h1, h2⟩ := rkF_ok q k (rank + 1)
    have hm : ∀ y, y ∈ (cntI q.length 0).filter (fun i => decide (rkS q i = rank)) ↔ (0 ≤ y ∧ y < q.length) ∧ rkS q y = rank := fun y => by
      rw [List.mem_filter, cntI_mem, decide_eq_true_eq]
      omega
    rw [rkF]
    refine ⟨List.pairwise_append.2 ⟨?_, h1, fun a ha b hb => ?_⟩, fun y => ?_⟩
    · refine ((cntI_pw q.length 0).filter _).imp_of_mem fun {a b} ha hb hlt => ?_
      have := (hm a).1 ha
      have := (hm b).1 hb
      unfold lexR; omega
    · have := (hm a).1 ha
      have := (h2 b).1 hb
      unfold lexR; omega
    · rw [List.mem_append, hm, h2]
      omega
theorem ord_rank {q : List Req} (h : rkOk q) : rkF q 100 0 = ordS q := by
  obtain ⟨h1, h2⟩ := rkF_ok q 100 0
  obtain ⟨h3, h4⟩ := ordS_ok h
  refine pw_eq (lexR_as q) h1 h3 fun x => ?_
  rw [h2, h4]
  constructor
  · exact fun hx => hx.1
  · intro hx
    have := h x hx.1 hx.2
    omega
theorem mgS_append (r : Rig) (s : List Int) (q : List Req) : ∀ (o p : List Int) (x : List Int × List Bool × List Int), mgS r s q (o ++ p) x = mgS r s q p (mgS r s q o x)
  | [], _, _ => rfl
  | i :: o, p, (m, g, t) => by
    rw [List.cons_append, mgS, mgS]
    split
    · exact mgS_append r s q o p _
    split
    · exact mgS_append r s q o p _
    · exact mgS_append r s q o p _
theorem mgS_sub {r : Rig} {s : List Int} {q : List Req} : ∀ (o : List Int) (x : List Int × List Bool × List Int), ∃ u, (mgS r s q o x).2.2 = x.2.2 ++ u ∧ u.Sublist o
  | [], x => ⟨[], by rw [mgS, List.append_nil], List.Sublist.slnil⟩
  | i :: o, (m, g, t) => by
    rw [mgS]
    split
    · obtain ⟨u, h1, h2⟩ := mgS_sub (r := r) (s := s) (q := q) o (m, g, t)
      exact ⟨u, h1, h2.cons _⟩
    split
    · obtain ⟨u, h1, h2⟩ := mgS_sub (r := r) (s := s) (q := q) o (m.set (q.getD i.toNat zReq).1.toNat (q.getD i.toNat zReq).2.1, g.set (q.getD i.toNat zReq).1.toNat true, t ++ [i])
      exact ⟨i :: u, by rw [h1]; simp, h2.cons_cons _⟩
    · obtain ⟨u, h1, h2⟩ := mgS_sub (r := r) (s := s) (q := q) o (m.set (q.getD i.toNat zReq).1.toNat 0, g, t)
      exact ⟨u, h1, h2.cons _⟩
def tbOk (n : Nat) (tb : List Bool) (t : List Int) : Prop := tb.length = n ∧ ∀ i : Int, 0 ≤ i → i < n → (tb.getD i.toNat false = true ↔ i ∈ t)
theorem tbOk_set {n : Nat} {tb : List Bool} {t : List Int} {i : Int} (h : tbOk n tb t) (h0 : 0 ≤ i) (h1 : i < n) : tbOk n (tb.set i.toNat true) (t ++ [i]) := by
  obtain ⟨a, b⟩ := h
  refine ⟨by rw [List.length_set]; exact a, fun j j0 j1 => ?_⟩
  rw [List.mem_append, List.mem_singleton, ← b j j0 j1, List.getD_eq_getElem?_getD, List.getElem?_set, List.getD_eq_getElem?_getD]
  by_cases e : i.toNat = j.toNat
  · have e' : j = i := by omega
    rw [if_pos e, if_pos (by omega)]
    exact ⟨fun _ => .inr e', fun _ => rfl⟩
  · rw [if_neg e]
    exact ⟨.inl, fun h => h.elim id fun h => absurd (by rw [h]) e⟩
theorem mgI_seq {r : Rig} {s : List Int} {q : List Req} {rank : Int} : ∀ (k : Nat) (i : Int) (m : List Int) (g tb : List Bool) (t : List Int), 0 ≤ i → i + k = q.length → tbOk q.length tb t →
    (mgI r s q rank k i (m, g, tb)).1 = (mgS r s q ((cntI k i).filter (fun i => decide (rkS q i = rank))) (m, g, t)).1 ∧ (mgI r s q rank k i (m, g, tb)).2.1 = (mgS r s q ((cntI k i).filter (fun i => decide (rkS q i = rank))) (m, g, t)).2.1 ∧
      tbOk q.length (mgI r s q rank k i (m, g, tb)).2.2 (mgS r s q ((cntI k i).filter (fun i => decide (rkS q i = rank))) (m, g, t)).2.2
  | 0, _, m, g, tb, t, _, _, h => ⟨rfl, rfl, h⟩
  | k + 1, i, m, g, tb, t, h0, h1, h => by
    rw [mgI, cntI, List.filter_cons]
    unfold mgI1
    dsimp only
    by_cases c : rkS q i = rank
    · rw [if_pos (decide_eq_true c), mgS]
      have c' : ¬ (q.getD i.toNat zReq).2.2 ≠ rank := fun q => q c
      by_cases d : g.getD (q.getD i.toNat zReq).1.toNat false = true
      · rw [if_pos (.inr d), if_pos d]
        exact mgI_seq k (i + 1) m g tb t (by omega) (by omega) h
      · rw [if_neg (fun q => q.elim c' d), if_neg d]
        split
        · exact mgI_seq k (i + 1) _ _ _ _ (by omega) (by omega) (tbOk_set h h0 (by omega))
        · exact mgI_seq k (i + 1) _ _ _ _ (by omega) (by omega) h
    · have c' : (q.getD i.toNat zReq).2.2 ≠ rank := c
      rw [if_pos (.inl c'), if_neg (by rw [decide_eq_false c]; decide)]
      exact mgI_seq k (i + 1) m g tb t (by omega) (by omega) h
theorem mgK_seq {r : Rig} {s : List Int} {q : List Req} : ∀ (k : Nat) (rank : Int) (m : List Int) (g tb : List Bool) (t : List Int), tbOk q.length tb t →
    (mgK r s q k rank (m, g, tb)).1 = (mgS r s q (rkF q k rank) (m, g, t)).1 ∧ (mgK r s q k rank (m, g, tb)).2.1 = (mgS r s q (rkF q k rank) (m, g, t)).2.1 ∧ tbOk q.length (mgK r s q k rank (m, g, tb)).2.2 (mgS r s q (rkF q k rank) (m, g, t)).2.2
  | 0, _, m, g, tb, t, h => ⟨rfl, rfl, h⟩
  | k + 1, rank, m, g, tb, t, h => by
    rw [mgK, rkF, mgS_append]
    obtain ⟨h1, h2, h3⟩ := mgI_seq (r := r) (s := s) (q := q) (rank := rank) q.length 0 m g tb t (by decide) (by omega) h
    generalize mgI r s q rank q.length 0 (m, g, tb) = x at *
    generalize mgS r s q ((cntI q.length 0).filter (fun i => decide (rkS q i = rank))) (m, g, t) = y at *
    obtain ⟨m1, g1, tb1⟩ := x
    obtain ⟨m2, g2, t2⟩ := y
    dsimp only at h1 h2 h3
    subst h1 h2
    exact mgK_seq k (rank + 1) m1 g1 tb1 t2 h3
theorem whR_ok {tb : List Bool} : ∀ (k : Nat) (i : Int) (w : List Int), w.Pairwise (fun a b => a < b) → (∀ x ∈ w, x < i) → (whR tb k i w).Pairwise (fun a b => a < b) ∧ ∀ y, y ∈ whR tb k i w ↔ y ∈ w ∨ ((i ≤ y ∧ y < i + k) ∧ tb.getD y.toNat false = true)
  | 0, i, w, h, _ => ⟨h, fun y => by rw [whR]; exact ⟨.inl, fun h => h.elim id fun h => by omega⟩⟩
  | k + 1, i, w, h, h1 => by
    rw [whR]
    by_cases c : tb.getD i.toNat false = true
    · rw [if_pos c]
      obtain ⟨g1, g2⟩ := whR_ok (tb := tb) k (i + 1) (w ++ [i]) (List.pairwise_append.2 ⟨h, List.pairwise_singleton _ _, fun a ha b hb => by rw [List.mem_singleton.1 hb]; exact h1 a ha⟩) (fun x hx => by
        rcases List.mem_append.1 hx with hx | hx
        · have := h1 x hx; omega
        · rw [List.mem_singleton.1 hx]; omega)
      refine ⟨g1, fun y => ?_⟩
      rw [g2, List.mem_append, List.mem_singleton]
      constructor
      · rintro ((h | h) | ⟨h, h'⟩)
        · exact .inl h
        · exact .inr ⟨by omega, by rw [h]; exact c⟩
        · exact .inr ⟨by omega, h'⟩
      · rintro (h | ⟨h, h'⟩)
        · exact .inl (.inl h)
        · by_cases e : y = i
          · exact .inl (.inr e)
          · exact .inr ⟨by omega, h'⟩
    · rw [if_neg c]
      obtain ⟨g1, g2⟩ := whR_ok (tb := tb) k (i + 1) w h (fun x hx => by have := h1 x hx; omega)
      refine ⟨g1, fun y => ?_⟩
      rw [g2]
      constructor
      · rintro (h | ⟨h, h'⟩)
        · exact .inl h
        · exact .inr ⟨by omega, h'⟩
      · rintro (h | ⟨h, h'⟩)
        · exact .inl h
        · by_cases e : y = i
          · rw [e] at h'; exact absurd h' c
          · exact .inr ⟨by omega, h'⟩
theorem taken_ok {r : Rig} {s : List Int} {q : List Req} (h : rkOk q) : (isO ltI 0 (((mg0 r s q).2.2.length : Int) - 1).toNat 1 (mg0 r s q).2.2).Pairwise (fun a b => a < b) ∧ ∀ y, y ∈ isO ltI 0 (((mg0 r s q).2.2.length : Int) - 1).toNat 1 (mg0 r s q).2.2 ↔ y ∈ (mg0 r s q).2.2 := by
  obtain ⟨u, h1, h2⟩ := mgS_sub (r := r) (s := s) (q := q) (ordS q) (List.replicate s.length 0, List.replicate s.length false, [])
  have hu : (mg0 r s q).2.2 = u := h1
  rw [hu]
  refine isort_ok (fun a b c h1 h2 => by omega) (((ordS_ok h).1.sublist h2).imp fun {p x} hl => ?_)
  have : p ≠ x := fun e => lexR_as q p x hl (e ▸ hl)
  unfold cmpOk ltI
  refine ⟨fun c => of_decide_eq_true c, fun c => ?_⟩
  have := of_decide_eq_false c
  omega
theorem merge_eq (r : Rig) (s : List Int) (q : List Req) : rmrgS r s q = mrgS r s q := by
  unfold rmrgS mrgS
  by_cases c : mrgErr r s q ≠ 0
  · rw [if_pos c, if_pos c]
  · rw [if_neg c, if_neg c]
    have hE : mrgE s.length q = 0 := by
      unfold mrgErr at c
      split at c
      · rename_i h; exact absurd h c
      split at c
      · simp at c
      · simpa using c
    have hr := rkOk_of hE
    have h0 : tbOk q.length (List.replicate q.length false) [] := ⟨List.length_replicate, fun i h0 h1 => by
      rw [List.getD_eq_getElem?_getD, List.getElem?_replicate]
      split <;> simp⟩
    obtain ⟨h1, _, h3⟩ := mgK_seq (r := r) (s := s) 100 0 (List.replicate s.length 0) (List.replicate s.length false) _ _ h0
    rw [ord_rank hr] at h1 h3
    obtain ⟨g1, g2⟩ := taken_ok (r := r) (s := s) hr
    obtain ⟨w1, w2⟩ := whR_ok (tb := (rmg0 r s q).2.2) q.length 0 [] List.Pairwise.nil (fun x hx => by cases hx)
    have e1 : (rmg0 r s q).1 = (mg0 r s q).1 := h1
    have e2 : whR (rmg0 r s q).2.2 q.length 0 [] = isO ltI 0 (((mg0 r s q).2.2.length : Int) - 1).toNat 1 (mg0 r s q).2.2 := by
      refine pw_eq (R := fun a b => a < b) (fun a b h1 h2 => by omega) w1 g1 fun x => ?_
      rw [g2, w2]
      have hin : ∀ y ∈ (mg0 r s q).2.2, 0 ≤ y ∧ y < q.length := fun y hy => by
        obtain ⟨u, a1, a2⟩ := mgS_sub (r := r) (s := s) (q := q) (ordS q) (List.replicate s.length 0, List.replicate s.length false, [])
        have hu : (mg0 r s q).2.2 = u := a1
        rw [hu] at hy
        exact ((ordS_ok hr).2 y).1 (a2.subset hy)
      constructor
      · rintro (h | ⟨h, h'⟩)
        · cases h
        · exact (h3.2 x (by omega) (by omega)).1 h'
      · intro h
        have := hin x h
        exact .inr ⟨by omega, (h3.2 x (by omega) (by omega)).2 h⟩
    rw [e1, e2]
end
end Go.MR
