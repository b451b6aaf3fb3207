/- The reference's table of ticks: whether a move makes sure; the walks. -/
import Derived.Test.YtmolckndbmjgfaaMrAf
import Derived.Test.YtmolckndbmjgfaaMrAj
import Derived.Test.YtmolckndbmjgfaaFw4
namespace Go.MR
open Go Go.Sx Go.Proofs
set_option linter.unusedVariables false
set_option linter.unusedSimpArgs false
noncomputable section
def c_flagL : GC P where
  f := 2
  con := fun args _ _ => match args with
    | [.nilp] => some { need := some False, res := .any }
    | _ => none
  ent := by kernel_rfl
  ok := by
    intro args H base eff h E U w vals _ _ _ hn
    dsimp only at h
    split at h
    · cases h; exact hn.elim
    · cases h
abbrev tTb : Ty := .pair tRig (.pair tIs (.pair tIs tIs))
theorem putI_set {now : List Int} {i v : Int} (h0 : 0 ≤ i) (h : i < now.length) : putI now i v = now.set i.toNat v := by
  unfold putI
  rw [List.set_eq_take_append_cons_drop, if_pos (by omega), List.append_assoc, show (i + 1).toNat = i.toNat + 1 by omega]
  rfl
theorem putI_len {now : List Int} {i v : Int} (h0 : 0 ≤ i) (h : i < now.length) : (putI now i v).length = now.length := by rw [putI_set h0 h, List.length_set]
def preSure (ps : List Int) (T : Rows3) (s m now : List Int) (i left : Int) : Prop :=
  (0 ≤ i ∧ i ≤ s.length) ∧ OkR ps s m ∧ (now.length = ps.length ∧ inR now ps = true) ∧ (0 ≤ left ∧ left ≤ 2) ∧ ∀ l : Int, 0 ≤ l → l ≤ left → ((getT T l).length : Int) = prodL ps
theorem getT_list {a b c : List Int} {k : Int} (h0 : 0 ≤ k) (h : k ≤ 2) : ([a, b, c] : List (List Int)).getD k.toNat [] = getT (a, b, c) k := by
  have h1 : k = 0 ∨ k = 1 ∨ k = 2 := by omega
  rcases h1 with rfl | rfl | rfl <;> rfl
def L_sure : Lay := { slots := [(0, .adr tTb), (1, .val tIs), (2, .val tIs), (3, .val tIs), (4, .val tI), (5, .val tI), (6, .val tI)] }
def pre_sure : (Rig × Rows3) × List Int × List Int × List Int × Int × Int × Int × Unit → Prop := fun (((ps, bs), T), s, m, now, i, left, n, _) => preSure ps T s m now i left
def mu_sure : (Rig × Rows3) × List Int × List Int × List Int × Int × Int × Int × Unit → Nat := fun (_, s, _, _, i, _) => (s.length - i).toNat
def out_sure : (Rig × Rows3) × List Int × List Int × List Int × Int × Int × Int × Unit → MOut := fun (((ps, bs), T), s, m, now, i, left, n, _) => ⟨.bool (sureS ps T s m n (s.length - i).toNat i left now), [], []⟩
def H_sure (n : Nat) : Prop := ∀ a : (Rig × Rows3) × List Int × List Int × List Int × Int × Int × Int × Unit, ndP (some (pre_sure a ∧ mu_sure a < n)) → MFnOk P 123 L_sure ((fun x => x) a) (out_sure a)
def r_sure (n : Nat) (hok : H_sure n) : MC P := MC.of (α := (Rig × Rows3) × List Int × List Int × List Int × Int × Int × Int × Unit) 123 L_sure (fun x => x) (fun x => x) (fun _ => rfl) (fun a => some (pre_sure a ∧ mu_sure a < n)) out_sure (by kernel_rfl) (by kernel_rfl) (by kernel_rfl) hok
theorem T_sure (n : Nat) (hok : H_sure n) (ps : List Int) (bs : List Ban) (t0 t1 t2 s m now : List Int) (i left x : Int) : mTree (P := P) [(r_sure n hok).gc, c_rnumber.gc] (lpOf []) Try.f123 L_sure true (((ps, bs), (t0, t1, t2)), s, m, now, i, left, x, ()) =
  Tree.cond (i == (↑(List.length s) : Int)) (Tree.need ((0 : Int) ≤ left ∧ left < (↑(3 : Nat) : Int)) (Tree.need (List.length now ≤ (1000 : Nat) ∧ List.length now ≤ List.length ps) (Tree.need ((0 : Int) ≤ numW ps now (0 : Int) ∧ numW ps now (0 : Int) < (↑(List.length (List.getD [t0, t1, t2] (Int.toNat left) [])) : Int)) (Tree.cond (decide (List.getD (List.getD [t0, t1, t2] (Int.toNat left) []) (Int.toNat (numW ps now (0 : Int))) (0 : Int) ≥ (0 : Int))) (Tree.leaf { res := SV.bool (decide (List.getD (List.getD [t0, t1, t2] (Int.toNat left) []) (Int.toNat (numW ps now (0 : Int))) (0 : Int) < x)), boxes := [] }) (Tree.leaf { res := SV.bool false, boxes := [] }))))) (Tree.need ((0 : Int) ≤ (0 : Int) ∧ (0 : Int) ≤ i ∧ i ≤ (↑(List.length now) : Int)) (Tree.need (((0 : Nat) + List.length (List.drop (Int.toNat (0 : Int)) (List.take (Int.toNat i) now))) * (8 : Nat) ≤ (140737488355328 : Nat)) (Tree.need ((0 : Int) ≤ i ∧ i < (↑(List.length s) : Int)) (Tree.need ((0 : Int) ≤ i ∧ i < (↑(List.length m) : Int)) (Tree.need ((List.length (List.drop (Int.toNat (0 : Int)) (List.take (Int.toNat i) now)) + List.length [IntKind.wrap IntKind.i64 (List.getD s (Int.toNat i) (0 : Int) + List.getD m (Int.toNat i) (0 : Int))]) * (8 : Nat) ≤ (140737488355328 : Nat)) (Tree.need ((0 : Int) ≤ IntKind.wrap IntKind.i64 (i + (1 : Int)) ∧ IntKind.wrap IntKind.i64 (i + (1 : Int)) ≤ (↑(List.length now) : Int) ∧ (↑(List.length now) : Int) ≤ (↑(List.length now) : Int)) (Tree.need ((List.length (List.drop (Int.toNat (0 : Int)) (List.take (Int.toNat i) now) ++ [IntKind.wrap IntKind.i64 (List.getD s (Int.toNat i) (0 : Int) + List.getD m (Int.toNat i) (0 : Int))]) + List.length (List.drop (Int.toNat (IntKind.wrap IntKind.i64 (i + (1 : Int)))) (List.take (Int.toNat (↑(List.length now) : Int)) now))) * (8 : Nat) ≤ (140737488355328 : Nat)) (Tree.need (pre_sure (((ps, bs), t0, t1, t2), s, m, List.drop (Int.toNat (0 : Int)) (List.take (Int.toNat i) now) ++ [IntKind.wrap IntKind.i64 (List.getD s (Int.toNat i) (0 : Int) + List.getD m (Int.toNat i) (0 : Int))] ++ List.drop (Int.toNat (IntKind.wrap IntKind.i64 (i + (1 : Int)))) (List.take (Int.toNat (↑(List.length now) : Int)) now), IntKind.wrap IntKind.i64 (i + (1 : Int)), left, x, ()) ∧ mu_sure (((ps, bs), t0, t1, t2), s, m, List.drop (Int.toNat (0 : Int)) (List.take (Int.toNat i) now) ++ [IntKind.wrap IntKind.i64 (List.getD s (Int.toNat i) (0 : Int) + List.getD m (Int.toNat i) (0 : Int))] ++ List.drop (Int.toNat (IntKind.wrap IntKind.i64 (i + (1 : Int)))) (List.take (Int.toNat (↑(List.length now) : Int)) now), IntKind.wrap IntKind.i64 (i + (1 : Int)), left, x, ()) < n) (Tree.cond (!sureS ps (t0, t1, t2) s m x (Int.toNat ((↑(List.length s) : Int) - IntKind.wrap IntKind.i64 (i + (1 : Int)))) (IntKind.wrap IntKind.i64 (i + (1 : Int))) left (List.drop (Int.toNat (0 : Int)) (List.take (Int.toNat i) now) ++ [IntKind.wrap IntKind.i64 (List.getD s (Int.toNat i) (0 : Int) + List.getD m (Int.toNat i) (0 : Int))] ++ List.drop (Int.toNat (IntKind.wrap IntKind.i64 (i + (1 : Int)))) (List.take (Int.toNat (↑(List.length now) : Int)) now))) (Tree.leaf { res := SV.bool false, boxes := [] }) (Tree.need ((0 : Int) ≤ i ∧ i < (↑(List.length m) : Int)) (Tree.cond (List.getD m (Int.toNat i) (0 : Int) == (0 : Int)) (Tree.leaf { res := SV.bool true, boxes := [] }) (Tree.cond (left == (0 : Int)) (Tree.leaf { res := SV.bool true, boxes := [] }) (Tree.need ((0 : Int) ≤ (0 : Int) ∧ (0 : Int) ≤ i ∧ i ≤ (↑(List.length now) : Int)) (Tree.need (((0 : Nat) + List.length (List.drop (Int.toNat (0 : Int)) (List.take (Int.toNat i) now))) * (8 : Nat) ≤ (140737488355328 : Nat)) (Tree.need ((0 : Int) ≤ i ∧ i < (↑(List.length s) : Int)) (Tree.need ((List.length (List.drop (Int.toNat (0 : Int)) (List.take (Int.toNat i) now)) + List.length [List.getD s (Int.toNat i) (0 : Int)]) * (8 : Nat) ≤ (140737488355328 : Nat)) (Tree.need ((0 : Int) ≤ IntKind.wrap IntKind.i64 (i + (1 : Int)) ∧ IntKind.wrap IntKind.i64 (i + (1 : Int)) ≤ (↑(List.length now) : Int) ∧ (↑(List.length now) : Int) ≤ (↑(List.length now) : Int)) (Tree.need ((List.length (List.drop (Int.toNat (0 : Int)) (List.take (Int.toNat i) now) ++ [List.getD s (Int.toNat i) (0 : Int)]) + List.length (List.drop (Int.toNat (IntKind.wrap IntKind.i64 (i + (1 : Int)))) (List.take (Int.toNat (↑(List.length now) : Int)) now))) * (8 : Nat) ≤ (140737488355328 : Nat)) (Tree.need (pre_sure (((ps, bs), t0, t1, t2), s, m, List.drop (Int.toNat (0 : Int)) (List.take (Int.toNat i) now) ++ [List.getD s (Int.toNat i) (0 : Int)] ++ List.drop (Int.toNat (IntKind.wrap IntKind.i64 (i + (1 : Int)))) (List.take (Int.toNat (↑(List.length now) : Int)) now), IntKind.wrap IntKind.i64 (i + (1 : Int)), IntKind.wrap IntKind.i64 (left - (1 : Int)), x, ()) ∧ mu_sure (((ps, bs), t0, t1, t2), s, m, List.drop (Int.toNat (0 : Int)) (List.take (Int.toNat i) now) ++ [List.getD s (Int.toNat i) (0 : Int)] ++ List.drop (Int.toNat (IntKind.wrap IntKind.i64 (i + (1 : Int)))) (List.take (Int.toNat (↑(List.length now) : Int)) now), IntKind.wrap IntKind.i64 (i + (1 : Int)), IntKind.wrap IntKind.i64 (left - (1 : Int)), x, ()) < n) (Tree.leaf { res := SV.bool (sureS ps (t0, t1, t2) s m x (Int.toNat ((↑(List.length s) : Int) - IntKind.wrap IntKind.i64 (i + (1 : Int)))) (IntKind.wrap IntKind.i64 (i + (1 : Int))) (IntKind.wrap IntKind.i64 (left - (1 : Int))) (List.drop (Int.toNat (0 : Int)) (List.take (Int.toNat i) now) ++ [List.getD s (Int.toNat i) (0 : Int)] ++ List.drop (Int.toNat (IntKind.wrap IntKind.i64 (i + (1 : Int)))) (List.take (Int.toNat (↑(List.length now) : Int)) now))), boxes := [] })))))))))))))))))))) := by kernel_rfl
theorem M_sure : ∀ n, H_sure n := by
  intro n
  induction n with
  | zero => exact fun a h => absurd h.2 (Nat.not_lt_zero _)
  | succ n hok =>
    rintro ⟨⟨⟨ps, bs⟩, ⟨t0, t1, t2⟩⟩, s, m, now, i, left, x, ⟨⟩⟩ hp
    refine m_of hm (own := true) (by kernel_rfl) (by kernel_rfl) (by kernel_rfl) (T_sure n hok ps bs t0 t1 t2 s m now i left x) trivial ?_
    obtain ⟨⟨⟨h0, h1⟩, hk, ⟨hl, hr⟩, ⟨g0, g1⟩, hT⟩, hmu⟩ : preSure ps (t0, t1, t2) s m now i left ∧ _ := hp
    have sl := hk.sl
    have ml := hk.ml
    have l4 := hk.l4
    obtain ⟨n1, n2, n3⟩ := num_rng hk.pb hk.l4 hl hr
    have hlT := hT left g0 (Int.le_refl _)
    have e0 : ∀ v : List Int, List.drop (Int.toNat 0) v = v := fun v => rfl
    rw [getT_list g0 g1]
    simp only [Int.toNat_natCast, List.take_length]
    simp only [e0]
    refine ⟨fun c1 => ?_, fun c1 => ?_⟩
    · have d1 : i = (s.length : Int) := by simpa using c1
      refine ⟨⟨g0, by omega⟩, ⟨by omega, by omega⟩, ⟨n1, by omega⟩, ⟨fun c2 => ?_, fun c2 => ?_⟩⟩
      · refine congrArg (fun k : Bool => (⟨.bool k, [], []⟩ : MOut)) ?_
        rw [show ((s.length : Int) - i).toNat = 0 by omega, sureS]
        have d2 := of_decide_eq_true c2
        rw [decide_eq_true (show 0 ≤ (getT (t0, t1, t2) left).getD (numW ps now 0).toNat 0 from d2), Bool.true_and]
      · refine congrArg (fun k : Bool => (⟨.bool k, [], []⟩ : MOut)) ?_
        rw [show ((s.length : Int) - i).toNat = 0 by omega, sureS]
        have d2 := of_decide_eq_false c2
        rw [decide_eq_false (show ¬ 0 ≤ (getT (t0, t1, t2) left).getD (numW ps now 0).toNat 0 from d2), Bool.false_and]
    · have d1 : ¬ i = (s.length : Int) := by simpa using c1
      rw [W_id (n := i + 1) (by omega) (by omega), W_id (n := left - 1) (by omega) (by omega)]
      have hi : i.toNat < ps.length := by omega
      have lt : (now.take i.toNat).length = i.toNat := by rw [List.length_take]; omega
      have ld : (now.drop (i + 1).toNat).length = now.length - (i + 1).toNat := List.length_drop
      have e1 : ∀ v : Int, now.take i.toNat ++ [v] ++ now.drop (i + 1).toNat = putI now i v := fun v => rfl
      simp only [e1, List.length_append, lt, ld, List.length_singleton]
      obtain ⟨w0, w1⟩ := hk.w hi
      obtain ⟨s0, s1⟩ := hk.s hi
      have pre : ∀ (v lf : Int), 0 ≤ v → v < ps.getD i.toNat 0 → 0 ≤ lf → lf ≤ left → pre_sure (((ps, bs), t0, t1, t2), s, m, putI now i v, i + 1, lf, x, ()) ∧ mu_sure (((ps, bs), t0, t1, t2), s, m, putI now i v, i + 1, lf, x, ()) < n := fun v lf v0 v1 f0 f1 => by
        refine ⟨⟨⟨by omega, by omega⟩, hk, ⟨by rw [putI_len h0 (by omega)]; exact hl, ?_⟩, ⟨f0, by omega⟩, fun l q0 q1 => hT l q0 (by omega)⟩, ?_⟩
        · rw [putI_set h0 (by omega)]
          exact inR_set hl hr (by omega) v0 v1
        · have hmu' : ((s.length : Int) - i).toNat < n + 1 := hmu
          show ((s.length : Int) - (i + 1)).toNat < n
          omega
      have hS : out_sure (((ps, bs), t0, t1, t2), s, m, now, i, left, x, ()) = ⟨.bool (if sureS ps (t0, t1, t2) s m x ((s.length : Int) - (i + 1)).toNat (i + 1) left (putI now i (IntKind.wrap IntKind.i64 (s.getD i.toNat 0 + m.getD i.toNat 0))) = false then false else if m.getD i.toNat 0 = 0 ∨ left = 0 then true else sureS ps (t0, t1, t2) s m x ((s.length : Int) - (i + 1)).toNat (i + 1) (left - 1) (putI now i (s.getD i.toNat 0))), [], []⟩ := by
        show (⟨.bool (sureS ps (t0, t1, t2) s m x ((s.length : Int) - i).toNat i left now), [], []⟩ : MOut) = _
        rw [show ((s.length : Int) - i).toNat = ((s.length : Int) - (i + 1)).toNat + 1 by omega, sureS]
      rw [hS]
      refine ⟨⟨by decide, h0, by omega⟩, by omega, ⟨h0, by omega⟩, ⟨h0, by omega⟩, by omega, ⟨by omega, by omega, by omega⟩, by omega, pre _ left w0 w1 g0 (Int.le_refl _), ⟨fun c3 => ?_, fun c3 => ⟨⟨h0, by omega⟩, ⟨fun c4 => ?_, fun c4 => ⟨fun c5 => ?_, fun c5 => ?_⟩⟩⟩⟩⟩
      · have d3 : sureS ps (t0, t1, t2) s m x ((s.length : Int) - (i + 1)).toNat (i + 1) left (putI now i (IntKind.wrap IntKind.i64 (s.getD i.toNat 0 + m.getD i.toNat 0))) = false := by simpa using c3
        rw [if_pos d3]; rfl
      all_goals
        have d3 : ¬ sureS ps (t0, t1, t2) s m x ((s.length : Int) - (i + 1)).toNat (i + 1) left (putI now i (IntKind.wrap IntKind.i64 (s.getD i.toNat 0 + m.getD i.toNat 0))) = false := by simpa using c3
        rw [if_neg d3]
      · have d4 : m.getD i.toNat 0 = 0 := by simpa using c4
        rw [if_pos (.inl d4)]; rfl
      · have d5 : left = 0 := by simpa using c5
        rw [if_pos (.inr d5)]; rfl
      · have d4 : ¬ m.getD i.toNat 0 = 0 := by simpa using c4
        have d5 : ¬ left = 0 := by simpa using c5
        rw [if_neg (fun q => q.elim d4 d5)]
        exact ⟨⟨by decide, h0, by omega⟩, by omega, ⟨h0, by omega⟩, by omega, ⟨by omega, by omega, by omega⟩, by omega, pre _ (left - 1) s0 s1 (by omega) (by omega), rfl⟩
structure PreB (ps : List Int) (T : Rows3) (s : List Int) (l : List (List Int)) (left : Int) : Prop where
  ok : ∀ m ∈ l, OkR ps s m
  l0 : 0 ≤ left
  l2 : left ≤ 2
  rows : ∀ k : Int, 0 ≤ k → k ≤ left → ((getT T k).length : Int) = prodL ps
theorem firstM_yes' {p : List Int → Bool} {m : List Int} {l : List (List Int)} (h : p m = true) : (m :: l).any p = true ∧ firstM p (m :: l) = m := ⟨by rw [List.any_cons, h, Bool.true_or], firstM_yes h⟩
def c_sureX : XC P := XC.of (α := (Rig × Rows3) × List Int × List Int × List Int × Int × Int × Int × Unit) 123 L_sure (fun x => x) (fun x => x) (fun _ => rfl) (fun a => some (pre_sure a)) out_sure (by kernel_rfl) (by kernel_rfl) (fun a h => M_sure (mu_sure a + 1) a ⟨h, Nat.lt_succ_self _⟩)
abbrev bT : List Sh := [.val tIs, .val (.sl tBan), .row 3 tI, .row 3 tI, .row 3 tI]
def L_rbst0 : Lay := { slots := [(0, .ptr 1 0), (1, .val tIs), (2, .val (.sl tIs)), (3, .val tI), (4, .val tI)], boxes := [(1, bT)], rb := 2000000 }
def L_rbest : Lay := { slots := [(0, .ptr 1 0), (1, .val tIs), (2, .val (.sl tIs)), (3, .val tI), (4, .val tI), (11, .val tI)], boxes := [(1, bT)] }
def L_rbest_0 : Lay := { slots := [(10, .val tIs)], boxes := [(1, bT)] }
def L_rbest_1 : Lay := { slots := [], boxes := [(1, bT)] }
def X_rbest : Exit → St → Option Lay
  | .ret, _ => some L_rbest_0
  | .exit 0, _ => some L_rbest_1
  | _, _ => none
abbrev C_rbest : Code := loopC (bodyOf Try.f91) 0
theorem B_rbest (s : List Int) (l : List (List Int)) (left n i : Int) (ps : List Int) (bs : List Ban) (t0 t1 t2 : List Int) : loopBodyA (P := P) [c_sureX.gc] (lpOf []) [] 32 (usd noU (L_rbst0.ids ++ rowIds 2000000 L_rbst0.shs)) (inner C_rbest) L_rbest X_rbest (α := Unit × List Int × List (List Int) × Int × Int × Int × List Int × List Ban × List Int × List Int × List Int × Unit) (fun x => x) (fun x => x) ((), s, l, left, n, i, ps, bs, t0, t1, t2, ()) =
  Tree.cond (decide (i < (↑(List.length l) : Int))) (Tree.need ((0 : Int) ≤ i ∧ i < (↑(List.length l) : Int)) (Tree.need (pre_sure (((ps, bs), t0, t1, t2), s, List.getD l (Int.toNat i) [], s, (0 : Int), left, n, ())) (Tree.cond (sureS ps (t0, t1, t2) s (List.getD l (Int.toNat i) []) n (Int.toNat ((↑(List.length s) : Int) - (0 : Int))) (0 : Int) left s) (Tree.need ((0 : Int) ≤ i ∧ i < (↑(List.length l) : Int)) (Tree.leaf (Sum.inr (Exit.ret, Lay.st L_rbest_0 (usd noU (Lay.ids L_rbst0 ++ rowIds (2000000 : Nat) (Lay.shs L_rbst0))) (List.getD l (Int.toNat i) [], ps, bs, t0, t1, t2, PUnit.unit))))) (Tree.leaf (Sum.inl (PUnit.unit, s, l, left, n, IntKind.wrap IntKind.i64 (i + (1 : Int)), ps, bs, t0, t1, t2, PUnit.unit)))))) (Tree.leaf (Sum.inr (Exit.exit (0 : Nat), Lay.st L_rbest_1 (usd noU (Lay.ids L_rbst0 ++ rowIds (2000000 : Nat) (Lay.shs L_rbst0))) (ps, bs, t0, t1, t2, PUnit.unit)))) := by kernel_rfl
def inv_rbest : Unit × List Int × List (List Int) × Int × Int × Int × List Int × List Ban × List Int × List Int × List Int × Unit → Prop := fun (_, s, l, left, n, i, ps, bs, t0, t1, t2, _) => 0 ≤ i ∧ i ≤ l.length ∧ (l.length : Int) ≤ 1000 ∧ PreB ps (t0, t1, t2) s l left
def O_rbest : Unit × List Int × List (List Int) × Int × Int × Int × List Int × List Ban × List Int × List Int × List Int × Unit → Tree (Exit × St) := fun (_, s, l, left, n, i, ps, bs, t0, t1, t2, _) => .cond ((l.drop i.toNat).any (sure0 ps (t0, t1, t2) s left n)) (.leaf (.ret, L_rbest_0.st (usd noU (L_rbst0.ids ++ rowIds 2000000 L_rbst0.shs)) (firstM (sure0 ps (t0, t1, t2) s left n) (l.drop i.toNat), ps, bs, t0, t1, t2, ()))) (.leaf (.exit 0, L_rbest_1.st (usd noU (L_rbst0.ids ++ rowIds 2000000 L_rbst0.shs)) (ps, bs, t0, t1, t2, ())))
def R_rbest : LRun := runOf 32 L_rbest (fun x => x) (inv_rbest) (O_rbest)
theorem K_rbest : LoopOk P [] 32 none (usd noU (L_rbst0.ids ++ rowIds 2000000 L_rbst0.shs)) C_rbest (R_rbest) := by
  refine loop_of hm (cx := [c_sureX.gc]) [] (xl := X_rbest) (α := Unit × List Int × List (List Int) × Int × Int × Int × List Int × List Ban × List Int × List Int × List Int × Unit) (fun x => x) (fun (_, s, l, left, n, i, ps, bs, t0, t1, t2, _) => ((l.length : Int) - i).toNat) (fun _ => rfl) (by kernel_rfl) (by kernel_rfl) ?_ (by kernel_rfl) trivial ?_
  · intro e S L' h
    unfold X_rbest at h
    split at h <;> first | (cases h; done) | (cases h; kernel_rfl) | (rcases bif_some h with h | h <;> cases h <;> kernel_rfl)
  · rintro ⟨⟨⟩, s, l, left, n, i, ps, bs, t0, t1, t2, ⟨⟩⟩ hinv Q hQ
    refine hold_of_eq (B_rbest s l left n i ps bs t0 t1 t2) ?_
    obtain ⟨h0, h1, h2, h3⟩ := hinv
    rw [W_id (n := i + 1) (by omega) (by omega)]
    unfold O_rbest at hQ
    dsimp only at hQ
    refine ⟨fun c1 => ?_, fun c1 => ?_⟩
    · have d1 := of_decide_eq_true c1
      have hm : ((l.length : Int) - (i + 1)).toNat < ((l.length : Int) - i).toNat := by omega
      have hk := h3.ok _ (getD_mem (d := ([] : List Int)) (show i.toNat < l.length by omega))
      have hsl := hk.sl
      have e0 : ((s.length : Int) - 0).toNat = s.length := by omega
      rw [drop_step ([] : List Int) h0 d1] at hQ
      have es : ∀ m, sureS ps (t0, t1, t2) s m n ((s.length : Int) - 0).toNat 0 left s = sure0 ps (t0, t1, t2) s left n m := fun m => by rw [e0]; rfl
      rw [es]
      refine ⟨⟨h0, by omega⟩, ⟨⟨by decide, by omega⟩, hk, ⟨hsl, hk.si⟩, ⟨h3.l0, h3.l2⟩, h3.rows⟩, ⟨fun c2 => ⟨⟨h0, by omega⟩, ?_⟩, fun c2 => ?_⟩⟩
      · obtain ⟨f1, f2⟩ := firstM_yes' (l := l.drop (i + 1).toNat) (show sure0 ps (t0, t1, t2) s left n (l.getD i.toNat []) = true from c2)
        rw [f2] at hQ
        exact hQ.1 f1
      · have c2' : sure0 ps (t0, t1, t2) s left n (l.getD i.toNat []) = false := c2
        rw [List.any_cons, c2', Bool.false_or, firstM_no c2'] at hQ
        exact ⟨⟨⟨by omega, by omega, h2, h3⟩, hm⟩, hQ⟩
    · have d1 := of_decide_eq_false c1
      rw [drop_end d1] at hQ
      exact hQ.2 rfl
def L_rbst : Lay := { slots := [(0, .ptr 1 0), (1, .val tIs), (2, .val (.sl tIs)), (3, .val tI), (4, .val tI)], boxes := [(1, bT)], rb := 2000000 }
theorem T_rbst (s : List Int) (l : List (List Int)) (left n : Int) (ps : List Int) (bs : List Ban) (t0 t1 t2 : List Int) : mTree (P := P) [] (lpOf [(0, R_rbest)]) Try.f91 L_rbst true ((), s, l, left, n, ps, bs, t0, t1, t2, ()) =
  Tree.need (inv_rbest ((), s, l, left, n, (0 : Int), ps, bs, t0, t1, t2, ())) (Tree.cond (List.any (List.drop (Int.toNat (0 : Int)) l) (sure0 ps (t0, t1, t2) s left n)) (Tree.leaf { res := SV.sl tI (firstM (sure0 ps (t0, t1, t2) s left n) (List.drop (Int.toNat (0 : Int)) l)), boxes := [[SV.sl tI ps, SV.sl tBan bs, SV.own (nat_lit 100 + (0 : Nat)), SV.own (nat_lit 100 + ((0 : Nat) + (1 : Nat))), SV.own (nat_lit 100 + ((0 : Nat) + (1 : Nat) + (1 : Nat)))]], news := [Ob.row (3 : TypeId) tI t0, Ob.row (3 : TypeId) tI t1, Ob.row (3 : TypeId) tI t2] }) (Tree.leaf { res := SV.nils, boxes := [[SV.sl tI ps, SV.sl tBan bs, SV.own (nat_lit 100 + (0 : Nat)), SV.own (nat_lit 100 + ((0 : Nat) + (1 : Nat))), SV.own (nat_lit 100 + ((0 : Nat) + (1 : Nat) + (1 : Nat)))]], news := [Ob.row (3 : TypeId) tI t0, Ob.row (3 : TypeId) tI t1, Ob.row (3 : TypeId) tI t2] })) := by kernel_rfl
def c_rbst : MC P := MC.of (α := Unit × List Int × List (List Int) × Int × Int × List Int × List Ban × List Int × List Int × List Int × Unit) 91 L_rbst (fun x => x) (fun x => x) (fun _ => rfl)
  (fun (_, s, l, left, n, ps, bs, t0, t1, t2, _) => some (PreB ps (t0, t1, t2) s l left ∧ (l.length : Int) ≤ 1000 ∧ ∀ m ∈ l, m ≠ []))
  (fun (_, s, l, left, n, ps, bs, t0, t1, t2, _) => ⟨.osl tI (bestT ps (t0, t1, t2) s l left n), [[.sl tI ps, .sl tBan bs, .own 100, .own 101, .own 102]], [.row 3 tI t0, .row 3 tI t1, .row 3 tI t2]⟩) (by kernel_rfl) (by kernel_rfl) (by kernel_rfl) (by
    rintro ⟨⟨⟩, s, l, left, n, ps, bs, t0, t1, t2, ⟨⟩⟩ hp
    refine m_le hm (own := true) (by kernel_rfl) (by kernel_rfl) (by kernel_rfl) (T_rbst s l left n ps bs t0 t1 t2) ⟨K_rbest, trivial⟩ ?_
    obtain ⟨p1, p2, p3⟩ : PreB ps (t0, t1, t2) s l left ∧ (l.length : Int) ≤ 1000 ∧ ∀ m ∈ l, m ≠ [] := hp
    refine ⟨⟨by decide, by omega, p2, p1⟩, fun c1 => ?_, fun c1 => ?_⟩
    · exact ⟨leS_osl (p3 _ (firstM_mem c1).1), rfl, rfl⟩
    · have e : bestT ps (t0, t1, t2) s l left n = [] := firstM_nil c1
      dsimp only
      rw [e]
      exact ⟨leS_nosl, rfl, rfl⟩)
end
end Go.MR
