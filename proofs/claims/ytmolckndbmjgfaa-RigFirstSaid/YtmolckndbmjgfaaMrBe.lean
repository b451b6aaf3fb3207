/- Merge: the program's order and the reference's; plain laws. -/
import Derived.Test.YtmolckndbmjgfaaMrBd
namespace Go.MR
open Go Go.Sx Go.Proofs
set_option linter.unusedVariables false
set_option linter.unusedSimpArgs false
noncomputable section
def insRv (lt : Int → Int → Bool) (x : Int) : List Int → List Int
  | [] => [x]
  | p :: r => if lt x p = true then p :: insRv lt x r else x :: p :: r
theorem insRv_len (lt : Int → Int → Bool) (x : Int) : ∀ rv : List Int, (insRv lt x rv).length = rv.length + 1
  | [] => rfl
  | p :: r => by
    rw [insRv]
    split
    · rw [List.length_cons, insRv_len lt x r, List.length_cons]
    · rfl
theorem insRv_mem (lt : Int → Int → Bool) (x y : Int) : ∀ rv : List Int, y ∈ insRv lt x rv ↔ y = x ∨ y ∈ rv
  | [] => by rw [insRv, List.mem_singleton]; simp
  | p :: r => by
    rw [insRv]
    split
    · rw [List.mem_cons, insRv_mem lt x y r, List.mem_cons]
      constructor
      · rintro (h | h | h)
        · exact .inr (.inl h)
        · exact .inl h
        · exact .inr (.inr h)
      · rintro (h | h | h)
        · exact .inr (.inl h)
        · exact .inl h
        · exact .inr (.inr h)
    · rw [List.mem_cons]
theorem get_mid (a b : List Int) (x : Int) : (a ++ x :: b).getD a.length 0 = x := by
  rw [List.getD_eq_getElem?_getD, List.getElem?_append_right (Nat.le_refl _), Nat.sub_self]; rfl
theorem set_mid (a b : List Int) (x v : Int) : (a ++ x :: b).set a.length v = a ++ v :: b := by
  rw [List.set_append_right _ _ (Nat.le_refl _), Nat.sub_self]; rfl
theorem insJ_list (lt : Int → Int → Bool) : ∀ (rv : List Int) (x : Int) (post : List Int), insJ lt 0 rv.length (rv.length : Int) (rv.reverse ++ x :: post) = (insRv lt x rv).reverse ++ post
  | [], x, post => by
    rw [List.length_nil, insJ, insRv]
    rfl
  | p :: r, x, post => by
    have hl : r.reverse.length = r.length := List.length_reverse
    have e0 : (p :: r).reverse ++ x :: post = r.reverse ++ p :: x :: post := by rw [List.reverse_cons, List.append_assoc]; rfl
    have e0' : r.reverse ++ p :: x :: post = (r.reverse ++ [p]) ++ x :: post := by rw [List.append_assoc]; rfl
    have hl' : (r.reverse ++ [p]).length = r.length + 1 := by rw [List.length_append, hl]; rfl
    have g1 : (r.reverse ++ p :: x :: post).getD (r.length + 1) 0 = x := by rw [e0', ← hl']; exact get_mid _ _ _
    have g2 : (r.reverse ++ p :: x :: post).getD r.length 0 = p := by rw [← hl]; exact get_mid _ _ _
    have t1 : (((p :: r).length : Nat) : Int).toNat = r.length + 1 := by rw [List.length_cons]; omega
    have t2 : ((((p :: r).length : Nat) : Int) - 1).toNat = r.length := by rw [List.length_cons]; omega
    have t3 : (((p :: r).length : Nat) : Int) - 1 = (r.length : Int) := by rw [List.length_cons]; omega
    have t4 : decide ((((p :: r).length : Nat) : Int) > 0) = true := decide_eq_true (by rw [List.length_cons]; omega)
    rw [e0]
    show insJ lt 0 (r.length + 1) _ _ = _
    rw [insJ, t1, t2, t4, g1, g2, Bool.true_and, insRv]
    by_cases c : lt x p = true
    · rw [if_pos c, if_pos c, t3]
      have es : swp (r.reverse ++ p :: x :: post) (((p :: r).length : Nat) : Int) = r.reverse ++ x :: p :: post := by
        unfold swp
        rw [t1, t2, g1, g2, e0', ← hl', set_mid, List.append_assoc]
        show (r.reverse ++ p :: p :: post).set r.length x = _
        rw [← hl, set_mid]
      rw [es, insJ_list lt r x (p :: post), List.reverse_cons, List.append_assoc]
      rfl
    · rw [if_neg c, if_neg c, List.reverse_cons, List.reverse_cons, List.append_assoc, List.append_assoc]
      rfl
theorem isO_list (lt : Int → Int → Bool) : ∀ (post rv : List Int), isO lt 0 post.length (rv.length : Int) (rv.reverse ++ post) = (post.foldl (fun acc x => insRv lt x acc) rv).reverse
  | [], rv => by rw [List.length_nil, isO, List.append_nil]; rfl
  | x :: post, rv => by
    have ih := isO_list lt post (insRv lt x rv)
    rw [insRv_len] at ih
    rw [List.length_cons, isO, show ((rv.length : Int) - 0).toNat = rv.length by omega, insJ_list, show ((rv.length : Int) + 1) = ((rv.length + 1 : Nat) : Int) by omega, ih]
    rfl
def cmpOk (lt : Int → Int → Bool) (R : Int → Int → Prop) (p x : Int) : Prop := (lt x p = true → R x p) ∧ (lt x p = false → R p x)
theorem insRv_pw {lt : Int → Int → Bool} {R : Int → Int → Prop} (tr : ∀ a b c, R a b → R b c → R a c) {x : Int} : ∀ {rv : List Int}, rv.Pairwise (fun a b => R b a) → (∀ p ∈ rv, cmpOk lt R p x) → (insRv lt x rv).Pairwise (fun a b => R b a)
  | [], _, _ => by rw [insRv]; exact List.pairwise_singleton _ _
  | p :: r, h, hx => by
    obtain ⟨h1, h2⟩ := List.pairwise_cons.1 h
    rw [insRv]
    split
    · rename_i c
      refine List.pairwise_cons.2 ⟨fun y hy => ?_, insRv_pw tr h2 fun q hq => hx q (List.mem_cons_of_mem _ hq)⟩
      rcases (insRv_mem lt x y r).1 hy with rfl | hy
      · exact (hx p (by simp)).1 c
      · exact h1 y hy
    · rename_i c
      have c' := (hx p (by simp)).2 (by simpa using c)
      refine List.pairwise_cons.2 ⟨fun y hy => ?_, h⟩
      rcases List.mem_cons.1 hy with rfl | hy
      · exact c'
      · exact tr _ _ _ (h1 y hy) c'
theorem fold_pw {lt : Int → Int → Bool} {R : Int → Int → Prop} (tr : ∀ a b c, R a b → R b c → R a c) : ∀ (post rv : List Int), rv.Pairwise (fun a b => R b a) → (∀ x ∈ post, ∀ p ∈ rv, cmpOk lt R p x) → post.Pairwise (cmpOk lt R) →
    (post.foldl (fun acc x => insRv lt x acc) rv).Pairwise (fun a b => R b a) ∧ ∀ y, y ∈ post.foldl (fun acc x => insRv lt x acc) rv ↔ y ∈ rv ∨ y ∈ post
  | [], rv, h, _, _ => ⟨h, fun y => by simp⟩
  | x :: post, rv, h, h1, h2 => by
    obtain ⟨h3, h4⟩ := List.pairwise_cons.1 h2
    obtain ⟨g1, g2⟩ := fold_pw tr post (insRv lt x rv) (insRv_pw tr h (h1 x (by simp))) (fun y hy p hp => by
      rcases (insRv_mem lt x p rv).1 hp with rfl | hp
      · exact h3 y hy
      · exact h1 y (List.mem_cons_of_mem _ hy) p hp) h4
    refine ⟨g1, fun y => ?_⟩
    rw [List.foldl_cons, g2 y, insRv_mem, List.mem_cons]
    constructor
    · rintro ((h | h) | h)
      · exact .inr (.inl h)
      · exact .inl h
      · exact .inr (.inr h)
    · rintro (h | h | h)
      · exact .inl (.inr h)
      · exact .inl (.inl h)
      · exact .inr h
theorem isort_ok {lt : Int → Int → Bool} {R : Int → Int → Prop} (tr : ∀ a b c, R a b → R b c → R a c) {l : List Int} (hP : l.Pairwise (cmpOk lt R)) :
    (isO lt 0 ((l.length : Int) - 1).toNat 1 l).Pairwise R ∧ ∀ y, y ∈ isO lt 0 ((l.length : Int) - 1).toNat 1 l ↔ y ∈ l := by
  cases l with
  | nil => exact ⟨List.Pairwise.nil, fun y => Iff.rfl⟩
  | cons x l =>
    have e := isO_list lt l [x]
    rw [List.length_cons, show (((l.length + 1 : Nat) : Int) - 1).toNat = l.length by omega]
    have e' : isO lt 0 l.length 1 (x :: l) = (l.foldl (fun acc x => insRv lt x acc) [x]).reverse := e
    rw [e']
    obtain ⟨h3, h4⟩ := List.pairwise_cons.1 hP
    obtain ⟨g1, g2⟩ := fold_pw tr l [x] (List.pairwise_singleton _ _) (fun y hy p hp => by rw [List.mem_singleton.1 hp]; exact h3 y hy) h4
    refine ⟨List.pairwise_reverse.2 g1, fun y => ?_⟩
    rw [List.mem_reverse, g2 y, List.mem_singleton, List.mem_cons]
def lexR (q : List Req) (i j : Int) : Prop := rkS q i < rkS q j ∨ (rkS q i = rkS q j ∧ i < j)
theorem lexR_tr (q : List Req) : ∀ a b c, lexR q a b → lexR q b c → lexR q a c := fun a b c h1 h2 => by unfold lexR at *; omega
theorem lexR_as (q : List Req) : ∀ a b, lexR q a b → ¬ lexR q b a := fun a b h1 h2 => by unfold lexR at *; omega
theorem cntI_pw : ∀ (k : Nat) (i : Int), (cntI k i).Pairwise (fun a b => a < b)
  | 0, _ => List.Pairwise.nil
  | k + 1, i => by
    rw [cntI]
    refine List.pairwise_cons.2 ⟨fun y hy => ?_, cntI_pw k (i + 1)⟩
    have := (cntI_mem k (i + 1) y).1 hy
    omega
def rkOk (q : List Req) : Prop := ∀ i : Int, 0 ≤ i → i < q.length → 0 ≤ rkS q i ∧ rkS q i ≤ 99
theorem rkOk_of {n : Int} {q : List Req} (h : mrgE n q = 0) : rkOk q := fun i h0 h1 => (mrgE_ok h _ (getD_mem (d := zReq) (show i.toNat < q.length by omega))).2.2
theorem ordS_ok {q : List Req} (h : rkOk q) : (ordS q).Pairwise (lexR q) ∧ ∀ y, y ∈ ordS q ↔ 0 ≤ y ∧ y < q.length := by
  have hP : (cntI q.length 0).Pairwise (cmpOk (ltR q) (lexR q)) := (cntI_pw q.length 0).imp_of_mem fun {p x} hp hx hlt => by
    have p1 := (cntI_mem _ _ _).1 hp
    have x1 := (cntI_mem _ _ _).1 hx
    have r1 := h p (by omega) (by omega)
    have r2 := h x (by omega) (by omega)
    have e : IntKind.wrap IntKind.i64 (rkS q x - rkS q p) = rkS q x - rkS q p := W_id (by omega) (by omega)
    unfold cmpOk ltR lexR
    rw [e]
    refine ⟨fun c => ?_, fun c => ?_⟩
    · have := of_decide_eq_true c; omega
    · have := of_decide_eq_false c; omega
  have := isort_ok (lexR_tr q) hP
  rw [cntI_len] at this
  refine ⟨this.1, fun y => ?_⟩
  rw [show y ∈ ordS q ↔ y ∈ cntI q.length 0 from this.2 y, cntI_mem]
  omega
theorem mgS_sub {r : Rig} {s : List Int} {q : List Req} : ∀ (o : List Int) (x : List Int × List Bool × List Int), ∃ u, (mgS r s q o x).2.2 = x.2.2 ++ u ∧ u.Sublist o
  | [], x => ⟨[], by rw [mgS, List.append_nil], List.Sublist.slnil⟩
  | i :: o, (m, g, t) => by
    rw [mgS]
    split
    · obtain ⟨u, h1, h2⟩ := mgS_sub (r := r) (s := s) (q := q) o (m, g, t)
      exact ⟨u, h1, h2.cons _⟩
    split
    · obtain ⟨u, h1, h2⟩ := mgS_sub (r := r) (s := s) (q := q) o (m.set (q.getD i.toNat zReq).1.toNat (q.getD i.toNat zReq).2.1, g.set (q.getD i.toNat zReq).1.toNat true, t ++ [i])
      exact ⟨i :: u, by rw [h1]; simp, h2.cons_cons _⟩
    · obtain ⟨u, h1, h2⟩ := mgS_sub (r := r) (s := s) (q := q) o (m.set (q.getD i.toNat zReq).1.toNat 0, g, t)
      exact ⟨u, h1, h2.cons _⟩
theorem taken_ok {r : Rig} {s : List Int} {q : List Req} (h : rkOk q) : (isO ltI 0 (((mg0 r s q).2.2.length : Int) - 1).toNat 1 (mg0 r s q).2.2).Pairwise (fun a b => a < b) ∧ ∀ y, y ∈ isO ltI 0 (((mg0 r s q).2.2.length : Int) - 1).toNat 1 (mg0 r s q).2.2 ↔ y ∈ (mg0 r s q).2.2 := by
  obtain ⟨u, h1, h2⟩ := mgS_sub (r := r) (s := s) (q := q) (ordS q) (List.replicate s.length 0, List.replicate s.length false, [])
  have hu : (mg0 r s q).2.2 = u := h1
  rw [hu]
  refine isort_ok (fun a b c h1 h2 => by omega) (((ordS_ok h).1.sublist h2).imp fun {p x} hl => ?_)
  have : p ≠ x := fun e => lexR_as q p x hl (e ▸ hl)
  unfold cmpOk ltI
  refine ⟨fun c => of_decide_eq_true c, fun c => ?_⟩
  have := of_decide_eq_false c
  omega
end
end Go.MR
