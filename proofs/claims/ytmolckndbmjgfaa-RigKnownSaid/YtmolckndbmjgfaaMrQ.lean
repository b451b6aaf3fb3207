/- Rigs: the reference's states and moves: as the program's. -/
import Derived.Test.YtmolckndbmjgfaaMrH
namespace Go.MR
open Go Go.Sx Go.Proofs
set_option linter.unusedVariables false
set_option linter.unusedSimpArgs false
noncomputable section
theorem ixS_congr {α : Type} {p q : α → Bool} : ∀ {l : List α}, (∀ x ∈ l, p x = q x) → ixS p l = ixS q l := fun {l} h => by
  have h1 : l.any p = l.any q := by
    induction l with
    | nil => rfl
    | cons x l ih => rw [List.any_cons, List.any_cons, h x (by simp), ih (fun y hy => h y (List.mem_cons_of_mem _ hy))]
  have h2 : l.findIdx p = l.findIdx q := by
    clear h1
    induction l with
    | nil => rfl
    | cons x l ih => rw [List.findIdx_cons, List.findIdx_cons, h x (by simp), ih (fun y hy => h y (List.mem_cons_of_mem _ hy))]
  unfold ixS
  rw [h1, h2]
theorem getD_still {s : List Int} {i : Nat} (h : i < s.length) : (stillS s).getD i (0, 0) = (s.getD i 0, s.getD i 0) := by
  unfold stillS
  rw [List.getD_eq_getElem?_getD, List.getD_eq_getElem?_getD, List.getElem?_map, List.getElem?_eq_getElem h]
  rfl
theorem hit_still {s : List Int} {b : Ban} (h : okB s.length b) : hitP s s b = banS (stillS s) b := by
  obtain ⟨h1, h2, h3, h4⟩ := h
  unfold hitP hitS banS
  rw [getD_still (by omega), getD_still (by omega)]
theorem getD_wayL : ∀ {s m : List Int} {i : Nat}, i < s.length → i < m.length → (wayL s m).getD i (0, 0) = (s.getD i 0, IntKind.wrap IntKind.i64 (s.getD i 0 + m.getD i 0)) ∧ (movedS s m).getD i 0 = IntKind.wrap IntKind.i64 (s.getD i 0 + m.getD i 0)
  | [], _, i, h, _ => by simp at h
  | _ :: _, [], i, _, h => by simp at h
  | p :: s, x :: m, 0, _, _ => ⟨rfl, rfl⟩
  | p :: s, x :: m, i + 1, h1, h2 => getD_wayL (s := s) (m := m) (by simpa using h1) (by simpa using h2)
theorem movedS_len : ∀ {s m : List Int}, s.length ≤ m.length → (movedS s m).length = s.length
  | [], m, _ => by rw [movedS_nil]
  | p :: s, [], h => by simp at h
  | p :: s, x :: m, h => by rw [movedS, List.length_cons, List.length_cons, movedS_len (by simpa using h)]
theorem place_ne' {ps : List Int} {i : Nat} (h : ps.any badP = false) (hi : i < ps.length) : 2 ≤ ps.getD i 0 ∧ ps.getD i 0 ≤ 8 := by
  have h1 := getD_mem (d := (0 : Int)) hi
  have h2 : badP (ps.getD i 0) = false := by
    cases hb : badP (ps.getD i 0) with
    | false => rfl
    | true => rw [List.any_eq_true.2 ⟨_, h1, hb⟩] at h; cases h
  unfold badP wi at h2
  simp only [Bool.not_eq_false', Bool.and_eq_true, decide_eq_true_eq] at h2
  exact h2
theorem inR_moved : ∀ {s m ps : List Int}, ps.any badP = false → s.length = ps.length → m.length = ps.length → inR (movedS s m) ps = wayOk s m ps
  | [], m, ps, _, _, _ => by rw [movedS_nil, wayOk_nil, inR_nil]
  | _ :: _, [], ps, _, h, h2 => by rw [← h] at h2; simp at h2
  | _ :: _, _ :: _, [], _, h, _ => by simp at h
  | p :: s, x :: m, q :: ps, hb, h1, h2 => by
    have hq := place_ne' (i := 0) hb (by simp)
    rw [show (q :: ps).getD 0 0 = q from rfl] at hq
    rw [List.any_cons, Bool.or_eq_false_iff] at hb
    rw [movedS, inR, wayOk, inR_moved hb.2 (by simpa using h1) (by simpa using h2)]
    unfold wi
    rw [W_id (n := q - 1) (by omega) (by omega)]
    have e : decide (IntKind.wrap IntKind.i64 (p + x) < q) = decide (IntKind.wrap IntKind.i64 (p + x) ≤ q - 1) := by
      by_cases c : IntKind.wrap IntKind.i64 (p + x) < q
      · rw [decide_eq_true c, decide_eq_true (by omega)]
      · rw [decide_eq_false c, decide_eq_false (by omega)]
    rw [e]
theorem T_rState (s0_0 : List Int) (s0_1 : List (Int × (Int × (Int × V)))) (s1 : List Int) : fnTree (P := P) [c_rCheck.gc, c_are.gc, c_banned.gc] (lpOf []) Try.f32 (encL 0 [.agg (.pair tIs (.sl (.pair tI (.pair tI (.pair tI tV))))), .val tIs] ((s0_0, s0_1), s1, ())) =
  Tree.cond (checkS (s0_0, s0_1) != (0 : Int)) (Tree.leaf (SV.int IntKind.i64 (checkS (s0_0, s0_1)))) (Tree.cond ((↑(List.length s1) : Int) != (↑(List.length s0_0) : Int)) (Tree.leaf (SV.int IntKind.i64 (3 : Int))) (Tree.need ((↑(List.length s1) : Int) < (2 : Int) ^ (62 : Nat)) (Tree.cond (!areS (s0_0, s0_1) s1) (Tree.leaf (SV.int IntKind.i64 (2 : Int))) (Tree.need ((↑(List.length s0_1) : Int) ≤ (1000 : Int) ∧ ∀ (b : Int × Int × Int × V), b ∈ s0_1 → okB (List.length s1) b ∧ okB (List.length s1) b) (Tree.cond (decide (ixS (hitP s1 s1) s0_1 ≥ (0 : Int))) (Tree.leaf (SV.int IntKind.i64 (12 : Int))) (Tree.leaf (SV.int IntKind.i64 (0 : Int)))))))) := by kernel_rfl
def c_rState : PC P := PC.of (α := (List Int × List (Int × (Int × (Int × V)))) × List Int × Unit) 32 [.agg (.pair tIs (.sl (.pair tI (.pair tI (.pair tI tV))))), .val tIs] (fun x => x) (fun x => x) (fun _ => rfl)
  (fun x => some ((x.2.1.length : Int) < 2 ^ 62))
  (fun x => .int .i64 (stateS x.1 x.2.1)) (by kernel_rfl) (by
    rintro ⟨⟨s0_0, s0_1⟩, s1, ⟨⟩⟩ hp
    refine fn_of hm (by kernel_rfl) (by kernel_rfl) (T_rState s0_0 s0_1 s1) trivial ?_
    try dsimp only at hp
    try dsimp only
    have hp' : (s1.length : Int) < 2 ^ 62 := hp
    have fin : ∀ k : Int, stateS (s0_0, s0_1) s1 = k → SV.int .i64 k = SV.int .i64 (stateS (s0_0, s0_1) s1) := fun k h => by rw [h]
    refine ⟨fun c1 => ?_, fun c1 => ⟨fun c2 => ?_, fun c2 => ⟨hp', fun c3 => ?_, fun c3 => ⟨?_, fun c4 => ?_, fun c4 => ?_⟩⟩⟩⟩
    · have d1 : checkS (s0_0, s0_1) ≠ 0 := by simpa using c1
      exact fin (checkS (s0_0, s0_1)) (by unfold stateS; rw [if_pos d1])
    all_goals
      have d1 : checkS (s0_0, s0_1) = 0 := by simpa using c1
      obtain ⟨k1, k2, k3, k4, k5⟩ := checkS_ok d1
      dsimp only at k1 k2 k3 k4 k5
    · have d2 : s1.length ≠ s0_0.length := by have := c2; simp only [bne_iff_ne, ne_eq] at this; omega
      exact fin 3 (by unfold stateS; rw [if_neg (by rw [d1]; simp), if_pos d2])
    all_goals
      have d2 : s1.length = s0_0.length := by have := c2; simp only [bne_eq_false_iff_eq] at this; omega
      have ea : areS (s0_0, s0_1) s1 = inR s1 s0_0 := by unfold areS; rw [decide_eq_true (show (s1.length : Int) = s0_0.length by omega), Bool.and_true]
      have hb := banEs_all k5
      have ex : ixS (hitP s1 s1) s0_1 = ixS (banS (stillS s1)) s0_1 := ixS_congr fun b hb' => hit_still (by rw [d2]; exact hb b hb')
    · have d3 : inR s1 s0_0 = false := by rw [← ea]; simpa using c3
      exact fin 2 (by unfold stateS; rw [if_neg (by rw [d1]; simp), if_neg (by rw [d2]; simp), if_pos d3])
    all_goals
      have d3 : inR s1 s0_0 = true := by rw [← ea]; simpa using c3
    · exact ⟨by omega, fun b hb' => by rw [d2]; exact ⟨hb b hb', hb b hb'⟩⟩
    · have d4 := of_decide_eq_true c4
      rw [ex] at d4
      exact fin 12 (by unfold stateS; rw [if_neg (by rw [d1]; simp), if_neg (by rw [d2]; simp), if_neg (by rw [d3]; simp), if_pos d4])
    · have d4 := of_decide_eq_false c4
      rw [ex] at d4
      exact fin 0 (by unfold stateS; rw [if_neg (by rw [d1]; simp), if_neg (by rw [d2]; simp), if_neg (by rw [d3]; simp), if_neg d4]))
end
end Go.MR
