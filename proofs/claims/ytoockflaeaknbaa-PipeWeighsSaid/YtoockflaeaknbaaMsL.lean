/- The laws PipeBends, PipeWeighs, PipeChecks, PipePieces. -/
import Derived.Test.YtoockflaeaknbaaMsK
import Derived.Test.YtoockflaeaknbaaFw4
namespace Go.MP
open Go Go.Sx Go.Proofs
set_option linter.unusedVariables false
set_option linter.unusedSimpArgs false
noncomputable section
def madeR (x : List Int × Unit) (b : Pth × List Tb × Cs × Bool) : Prop := checkS b.1 = 0 ∧ (b.2.2.2 = true → fitsS b.2.1 b.1 = 0 ∧ b.2.1.length ≤ 4) ∧ (∀ t ∈ b.2.1, ∀ m, 0 ≤ m → m ≤ 22000 → 0 < wetS t m) ∧ AllF b.2.1 ∧ sumT b.2.1 ≤ 19200 * b.2.1.length ∧ b.2.1.length ≤ 4 ∧
  (1 ≤ b.2.2.1.1 ∧ b.2.2.1.1 ≤ 3) ∧ (0 ≤ b.2.2.1.2.1 ∧ b.2.2.1.2.1 ≤ 22000) ∧ OkMu b.2.2.1.2.2.1 ∧ (0 ≤ b.2.2.1.2.2.2 ∧ b.2.2.1.2.2.2 ≤ 4294967296)
def T_made_t (l : List Int) : Tree SV :=
  Tree.need (pr_kPath ((), (6 : Int), l, (0 : Int), ())) (Tree.need ((0 : Int) ≤ (V_kPath ((), (6 : Int), l, (0 : Int), ())).snd ∧ (V_kPath ((), (6 : Int), l, (0 : Int), ())).snd ≤ (400000000 : Int)) (Tree.need ((0 : Int) ≤ (strK l (lenS (V_kPath ((), (6 : Int), l, (0 : Int), ())).fst) (Int.toNat ((1 : Int) + nextS l (V_kPath ((), (6 : Int), l, (0 : Int), ())).snd (4 : Int))) ((V_kPath ((), (6 : Int), l, (0 : Int), ())).snd + (1 : Int)) []).snd ∧ (strK l (lenS (V_kPath ((), (6 : Int), l, (0 : Int), ())).fst) (Int.toNat ((1 : Int) + nextS l (V_kPath ((), (6 : Int), l, (0 : Int), ())).snd (4 : Int))) ((V_kPath ((), (6 : Int), l, (0 : Int), ())).snd + (1 : Int)) []).snd < (1000000000 : Int)) (Tree.leaf (SV.tup [SV.agg [SV.int IntKind.i64 (V_kPath ((), (6 : Int), l, (0 : Int), ())).fst.fst.fst, SV.int IntKind.i64 (V_kPath ((), (6 : Int), l, (0 : Int), ())).fst.fst.snd.fst, SV.int IntKind.i64 (V_kPath ((), (6 : Int), l, (0 : Int), ())).fst.fst.snd.snd, SV.sl (Ty.pair tI (Ty.pair tI tI)) (V_kPath ((), (6 : Int), l, (0 : Int), ())).fst.snd], SV.agg [SV.sl (Ty.pair tI (Ty.pair tI (Ty.pair tI (Ty.pair tI (Ty.pair tI (Ty.pair tI (Ty.pair tI (Ty.pair tI tI)))))))) (strK l (lenS (V_kPath ((), (6 : Int), l, (0 : Int), ())).fst) (Int.toNat ((1 : Int) + nextS l (V_kPath ((), (6 : Int), l, (0 : Int), ())).snd (4 : Int))) ((V_kPath ((), (6 : Int), l, (0 : Int), ())).snd + (1 : Int)) []).fst], SV.agg [SV.int IntKind.i64 (caseK l (strK l (lenS (V_kPath ((), (6 : Int), l, (0 : Int), ())).fst) (Int.toNat ((1 : Int) + nextS l (V_kPath ((), (6 : Int), l, (0 : Int), ())).snd (4 : Int))) ((V_kPath ((), (6 : Int), l, (0 : Int), ())).snd + (1 : Int)) []).snd).fst, SV.int IntKind.i64 (caseK l (strK l (lenS (V_kPath ((), (6 : Int), l, (0 : Int), ())).fst) (Int.toNat ((1 : Int) + nextS l (V_kPath ((), (6 : Int), l, (0 : Int), ())).snd (4 : Int))) ((V_kPath ((), (6 : Int), l, (0 : Int), ())).snd + (1 : Int)) []).snd).snd.fst, SV.int IntKind.i64 (caseK l (strK l (lenS (V_kPath ((), (6 : Int), l, (0 : Int), ())).fst) (Int.toNat ((1 : Int) + nextS l (V_kPath ((), (6 : Int), l, (0 : Int), ())).snd (4 : Int))) ((V_kPath ((), (6 : Int), l, (0 : Int), ())).snd + (1 : Int)) []).snd).snd.snd.fst.fst, SV.int IntKind.i64 (caseK l (strK l (lenS (V_kPath ((), (6 : Int), l, (0 : Int), ())).fst) (Int.toNat ((1 : Int) + nextS l (V_kPath ((), (6 : Int), l, (0 : Int), ())).snd (4 : Int))) ((V_kPath ((), (6 : Int), l, (0 : Int), ())).snd + (1 : Int)) []).snd).snd.snd.fst.snd, SV.int IntKind.i64 (caseK l (strK l (lenS (V_kPath ((), (6 : Int), l, (0 : Int), ())).fst) (Int.toNat ((1 : Int) + nextS l (V_kPath ((), (6 : Int), l, (0 : Int), ())).snd (4 : Int))) ((V_kPath ((), (6 : Int), l, (0 : Int), ())).snd + (1 : Int)) []).snd).snd.snd.snd], SV.bool (decide ((↑(List.length (strK l (lenS (V_kPath ((), (6 : Int), l, (0 : Int), ())).fst) (Int.toNat ((1 : Int) + nextS l (V_kPath ((), (6 : Int), l, (0 : Int), ())).snd (4 : Int))) ((V_kPath ((), (6 : Int), l, (0 : Int), ())).snd + (1 : Int)) []).fst) : Int) > (0 : Int)))]))))
theorem T_made (l : List Int) : fnTree (P := P) [c_NewRing.gc, c_kPath.gc, c_kStr.gc, c_kCase.gc] (lpOf []) Try.f19 (encL 0 [.val tIs] (l, ())) = T_made_t l := by kernel_rfl
def pr_made : List Int × Unit → Prop := fun _ => True
def N_made : List Int × Unit → Pth × List Tb × Cs × Bool → SV := fun x b => .tup [.agg [.int .i64 b.1.1.1, .int .i64 b.1.1.2.1, .int .i64 b.1.1.2.2, .sl tV b.1.2], .agg [.sl tT b.2.1], .agg [.int .i64 b.2.2.1.1, .int .i64 b.2.2.1.2.1, .int .i64 b.2.2.1.2.2.1.1, .int .i64 b.2.2.1.2.2.1.2, .int .i64 b.2.2.1.2.2.2], .bool b.2.2.2]
def Z_made : List Int × Unit → Pth × List Tb × Cs × Bool → Prop := madeR
theorem X_made : ∃ f : List Int × Unit → Pth × List Tb × Cs × Bool, ∀ a, pr_made a → (fun a b => FnOk P 19 (encL 0 [.val tIs] a) (N_made a b) ∧ Z_made a b) a (f a) := by
  refine choose_val (α := List Int × Unit) (β := Pth × List Tb × Cs × Bool) (pr := pr_made) (R := fun a b => FnOk P 19 (encL 0 [.val tIs] a) (N_made a b) ∧ Z_made a b) ?_
  rintro ⟨l, ⟨⟩⟩ hp
  have key : (T_made_t l).holds (fun s => ∃ b, s = N_made (l, ()) b ∧ Z_made (l, ()) b) := by
    unfold T_made_t
    have hpr : pr_kPath ((), (6 : Int), l, (0 : Int), ()) := ⟨by decide, by decide, by decide, by decide⟩
    have hS := S_kPath _ hpr
    generalize V_kPath ((), (6 : Int), l, (0 : Int), ()) = b at *
    obtain ⟨⟨⟨x, y, z⟩, pl⟩, k1⟩ := b
    obtain ⟨hc, h1, h2, _⟩ := hS
    dsimp only at hc h1 h2 ⊢
    have n0 := nextS_rng (l := l) (k := k1) (n := 4) (by omega) (by decide)
    have hn0 : 0 ≤ lenS ((x, y, z), pl) := lenS_nn _
    have hstr := strK_ok (l := l) (n := lenS ((x, y, z), pl)) (1 + nextS l k1 4).toNat (k1 + 1) [] (by omega) ⟨fun t ht => (by cases ht), hn0, by decide, fun t ht => (by cases ht)⟩
    generalize strK l (lenS ((x, y, z), pl)) (1 + nextS l k1 4).toNat (k1 + 1) [] = st at *
    obtain ⟨s, k2⟩ := st
    obtain ⟨a, b, c, d⟩ := hstr
    dsimp only at a b c d ⊢
    rw [List.length_nil] at b
    refine ⟨hpr, ⟨by omega, by omega⟩, ⟨by omega, by omega⟩, ?_⟩
    have m0 := nextS_rng (l := l) (k := k2) (n := 3) (by omega) (by decide)
    have m1 := nextS_rng (l := l) (k := k2 + 1) (n := 22001) (by omega) (by decide)
    have m2 := nextS_rng (l := l) (k := k2 + 1 + 1) (n := 3) (by omega) (by decide)
    have m3 := nextS_rng (l := l) (k := k2 + 1 + 1 + 1) (n := 1048576) (by omega) (by decide)
    have m4 := nextS_rng (l := l) (k := k2 + 1 + 1 + 1 + 1) (n := 300) (by omega) (by decide)
    have m5 := nextS_rng (l := l) (k := k2 + 1 + 1 + 1 + 1 + 1) (n := 300) (by omega) (by decide)
    have mm := mul_rng (a := nextS l (k2 + 1 + 1) 3) (b := nextS l (k2 + 1 + 1 + 1) 1048576) (A := 2) (B := 1048576) m2.1 (by omega) m3.1 (by omega)
    refine ⟨(((x, y, z), pl), s, caseK l k2, decide ((s.length : Int) > 0)), rfl, hc, fun h => ?_, a.wet, a.fair, a.few, by show s.length ≤ 4; omega, ?_, ?_, ?_, ?_⟩
    · have h := of_decide_eq_true h
      obtain ⟨e1, e2⟩ := lenT_str a (by omega)
      have hne : s ≠ [] := fun e => by rw [e] at h; exact absurd h (by decide)
      refine ⟨?_, by show s.length ≤ 4; omega⟩
      have hck := e2 hne
      show fitsS s ((x, y, z), pl) = 0
      unfold fitsS
      rw [if_neg (by simp [hck]), if_neg (by simp [hc]), if_neg (by have := a.le; omega)]
    · show 1 ≤ 1 + nextS l k2 3 ∧ 1 + nextS l k2 3 ≤ 3; omega
    · show 0 ≤ nextS l (k2 + 1) 22001 ∧ nextS l (k2 + 1) 22001 ≤ 22000; omega
    · show 0 ≤ nextS l (k2 + 1 + 1 + 1 + 1) 300 ∧ nextS l (k2 + 1 + 1 + 1 + 1) 300 ≤ nextS l (k2 + 1 + 1 + 1 + 1) 300 + nextS l (k2 + 1 + 1 + 1 + 1 + 1) 300 ∧ nextS l (k2 + 1 + 1 + 1 + 1) 300 + nextS l (k2 + 1 + 1 + 1 + 1 + 1) 300 ≤ 600; omega
    · show 0 ≤ nextS l (k2 + 1 + 1) 3 * nextS l (k2 + 1 + 1 + 1) 1048576 * 1024 ∧ nextS l (k2 + 1 + 1) 3 * nextS l (k2 + 1 + 1 + 1) 1048576 * 1024 ≤ 4294967296; omega
  obtain ⟨s, ⟨b, hs, hb⟩, h⟩ := fn_rel hm (by kernel_rfl) (by kernel_rfl) (T_made l) trivial key
  subst hs
  exact ⟨b, h, hb⟩
def V_made : List Int × Unit → Pth × List Tb × Cs × Bool := Classical.choose X_made
theorem S_made : ∀ a, pr_made a → Z_made a (V_made a) := fun a h => ((Classical.choose_spec X_made) a h).2
def c_made : PC P := PC.of (α := List Int × Unit) 19 [.val tIs] (fun x => x) (fun x => x) (fun _ => rfl) (fun a => some (pr_made a)) (fun a => N_made a (V_made a)) (by kernel_rfl) (fun a h => ((Classical.choose_spec X_made) a h).1)
theorem wgh_one {t : Tb} {m : Int} (h : Fair t) (h9 : t.1 * t.2.1 ≤ 1048576) (h0 : 0 ≤ m) (h1 : m ≤ 40000) : wghS [t] m = t.1 * t.2.1 * wetS t m := by
  have hp := h.prod
  have hc : checkT [t] = 0 := by
    unfold checkT
    have ha : [t].any badT = false := AllF.any fun u hu => by rw [List.mem_singleton.1 hu]; exact h
    rw [if_neg (by simp), if_neg (by simp), if_neg (by rw [ha]; exact Bool.false_ne_true), if_neg]
    show ¬ (t.1 * t.2.1 + 0 > 1048576)
    omega
  unfold wghS
  rw [if_pos ⟨hc, h0, h1⟩]
  show t.1 * t.2.1 * wetS t m + 0 = _
  rw [Int.add_zero]
theorem prod_le {l : List Tb} (h : AllF l) : ∀ t ∈ l, t.1 * t.2.1 ≤ sumT l := by
  induction l with
  | nil => intro t ht; cases ht
  | cons u r ih =>
    intro t ht
    have hu := (h u (by simp)).prod
    have hr := sumT_rng r fun v hv => h v (by simp [hv])
    rw [sumT]
    rcases List.mem_cons.1 ht with rfl | ht
    · omega
    · have := ih (fun v hv => h v (by simp [hv])) t ht
      omega
def steL : List Tb → Int
  | [] => 0
  | t :: r => t.1 * t.2.1 * t.2.2.2.1 + steL r
theorem steL_step {l : List Tb} {i : Int} (h0 : 0 ≤ i) (h : i < l.length) : steL (l.drop i.toNat) = (l.getD i.toNat zT).1 * (l.getD i.toNat zT).2.1 * (l.getD i.toNat zT).2.2.2.1 + steL (l.drop (i + 1).toNat) := by
  rw [drop_step zT h0 h]; rfl
theorem wgh_diff (a b : Int) (ha : 0 ≤ a ∧ a ≤ 40000) (hb : 0 ≤ b ∧ b ≤ 40000) (l : List Tb) : AllF l → wghL b l - wghL a l = (a - b) * steL l := by
  induction l with
  | nil => intro _; simp [wghL, steL]
  | cons t r ih =>
    intro h
    have h1 := (h t (by simp)).wet ha.1 ha.2
    have h2 := (h t (by simp)).wet hb.1 hb.2
    have h3 := ih fun u hu => h u (by simp [hu])
    rw [wghL, wghL, steL, h1.1, h2.1]
    have e : t.1 * t.2.1 * (t.2.2.1 - b * t.2.2.2.1) - t.1 * t.2.1 * (t.2.2.1 - a * t.2.2.2.1) = (a - b) * (t.1 * t.2.1 * t.2.2.2.1) := by grind
    rw [Int.mul_add]
    omega
theorem steL_rng (l : List Tb) : AllF l → 0 ≤ steL l ∧ steL l ≤ 640000000 * l.length := by
  induction l with
  | nil => intro _; simp [steL]
  | cons t r ih =>
    intro h
    have h1 := (h t (by simp)).prod
    have h2 := (h t (by simp)).ste
    have h3 := ih fun u hu => h u (by simp [hu])
    have h4 := mul_rng (a := t.1 * t.2.1) (b := t.2.2.2.1) (A := 1600000) (B := 400) (by omega) (by omega) (by omega) h2.2
    rw [steL, List.length_cons]
    omega
def L_PipeWeighsL : Lay := { slots := [(1, .val tI), (2, .val tI), (8, .ptr 9091 0), (11, .val tI), (12, .val tI), (13, .val tI)], boxes := [(9091, [.val tTs])] }
def L_PipeWeighsL_0 : Lay := { slots := [(1, .val tI), (2, .val tI), (8, .ptr 9091 0), (11, .val tI), (12, .val tI)], boxes := [(9091, [.val tTs])] }
def X_PipeWeighsL : Exit → St → Option Lay
  | .exit 0, _ => some L_PipeWeighsL_0
  | _, _ => none
abbrev C_PipeWeighsL : Code := loopC (bodyOf Try.f6) 0
theorem B_PipeWeighsL (a b s u i : Int) (l_0 : List Tb) : loopBodyA (P := P) [c_Weight.gc] (lpOf []) [] 91 noU (inner C_PipeWeighsL) L_PipeWeighsL X_PipeWeighsL (α := Int × Int × Unit × Int × Int × Int × List Tb × Unit) (fun x => x) (fun x => x) (a, b, (), s, u, i, l_0, ()) =
  Tree.cond (decide (i < (↑(List.length l_0) : Int))) (Tree.need ((0 : Int) ≤ i ∧ i < (↑(List.length l_0) : Int)) (Tree.need ((↑(List.length [List.getD l_0 (Int.toNat i) ((0 : Int), (0 : Int), (0 : Int), (0 : Int), (0 : Int), (0 : Int), (0 : Int), (0 : Int), (0 : Int))]) : Int) < (2 : Int) ^ (62 : Nat)) (Tree.need ((0 : Int) ≤ i ∧ i < (↑(List.length l_0) : Int)) (Tree.need ((0 : Int) ≤ i ∧ i < (↑(List.length l_0) : Int)) (Tree.need ((0 : Int) ≤ i ∧ i < (↑(List.length l_0) : Int)) (Tree.leaf (Sum.inl (a, b, PUnit.unit, IntKind.wrap IntKind.i64 (s + wghS [List.getD l_0 (Int.toNat i) ((0 : Int), (0 : Int), (0 : Int), (0 : Int), (0 : Int), (0 : Int), (0 : Int), (0 : Int), (0 : Int))] a), IntKind.wrap IntKind.i64 (u + IntKind.wrap IntKind.i64 (IntKind.wrap IntKind.i64 ((List.getD l_0 (Int.toNat i) ((0 : Int), (0 : Int), (0 : Int), (0 : Int), (0 : Int), (0 : Int), (0 : Int), (0 : Int), (0 : Int))).fst * (List.getD l_0 (Int.toNat i) ((0 : Int), (0 : Int), (0 : Int), (0 : Int), (0 : Int), (0 : Int), (0 : Int), (0 : Int), (0 : Int))).snd.fst) * (List.getD l_0 (Int.toNat i) ((0 : Int), (0 : Int), (0 : Int), (0 : Int), (0 : Int), (0 : Int), (0 : Int), (0 : Int), (0 : Int))).snd.snd.snd.fst)), IntKind.wrap IntKind.i64 (i + (1 : Int)), l_0, PUnit.unit)))))))) (Tree.leaf (Sum.inr (Exit.exit (0 : Nat), Lay.st L_PipeWeighsL_0 noU (a, b, PUnit.unit, s, u, l_0, PUnit.unit)))) := by kernel_rfl
def inv_PipeWeighsL : Int × Int × Unit × Int × Int × Int × List Tb × Unit → Prop := fun (a, b, (), s, u, i, l_0, ()) => 0 ≤ i ∧ i ≤ l_0.length ∧ l_0.length ≤ 4 ∧ AllF l_0 ∧ (∀ t ∈ l_0, t.1 * t.2.1 ≤ 1048576) ∧ 0 ≤ a ∧ a ≤ 22000 ∧ -25600000000000 * i ≤ s ∧ s ≤ 25600000000000 * i ∧ 0 ≤ u ∧ u ≤ 640000000 * i
def O_PipeWeighsL : Int × Int × Unit × Int × Int × Int × List Tb × Unit → Tree (Exit × St) := fun (a, b, (), s, u, i, l_0, ()) => (.leaf (.exit 0, L_PipeWeighsL_0.st noU (a, b, (), (s + wghL a (l_0.drop i.toNat)), (u + steL (l_0.drop i.toNat)), l_0, ())))
def R_PipeWeighsL : LRun := runOf 91 L_PipeWeighsL (fun x => x) (inv_PipeWeighsL) (O_PipeWeighsL)
theorem K_PipeWeighsL : LoopOk P [] 91 none noU C_PipeWeighsL (R_PipeWeighsL) := by
  refine loop_of hm (cx := [c_Weight.gc]) [] (xl := X_PipeWeighsL) (α := Int × Int × Unit × Int × Int × Int × List Tb × Unit) (fun x => x) (fun (a, b, (), s, u, i, l_0, ()) => (l_0.length - i).toNat) (fun _ => rfl) (by kernel_rfl) (by kernel_rfl) ?_ (by kernel_rfl) trivial ?_
  · intro e S L' h
    unfold X_PipeWeighsL at h
    split at h <;> first | (cases h; done) | (cases h; kernel_rfl) | (rcases bif_some h with h | h <;> cases h <;> kernel_rfl)
  · rintro ⟨a, b, ⟨⟩, s, u, i, l_0, ⟨⟩⟩ hinv Q hQ
    refine hold_of_eq (B_PipeWeighsL a b s u i l_0) ?_
    obtain ⟨h0, h1, h2, h3, h4, h5, h6, h7, h8, h9, h10⟩ := hinv
    rw [W_id (n := i + 1) (by omega) (by omega)]
    have hQ' : Q (.exit 0, L_PipeWeighsL_0.st noU (a, b, (), s + wghL a (l_0.drop i.toNat), u + steL (l_0.drop i.toNat), l_0, ())) := hQ
    refine ⟨fun c1 => ?_, fun c1 => ?_⟩
    · have c1 := of_decide_eq_true c1
      have hmem := mem_getD (d := zT) h0 c1
      have hf := h3 _ hmem
      have hp := hf.prod
      have hs := hf.ste
      have hw := hf.wgh h5 (show a ≤ 40000 by omega)
      have hone := wgh_one (m := a) hf (h4 _ hmem) h5 (by omega)
      have hc := hf.cnt
      have hl := hf.len
      rw [wghL_step h0 c1, steL_step h0 c1, ← Int.add_assoc, ← Int.add_assoc] at hQ'
      generalize l_0.getD i.toNat zT = t at *
      have hq := mul_rng (a := t.1 * t.2.1) (b := t.2.2.2.1) (A := 1600000) (B := 400) (by omega) (by omega) (by omega) hs.2
      rw [hone, W_id (n := s + t.1 * t.2.1 * wetS t a) (by omega) (by omega), W_id (n := t.1 * t.2.1) (by omega) (by omega), W_id (n := t.1 * t.2.1 * t.2.2.2.1) (by omega) (by omega), W_id (n := u + t.1 * t.2.1 * t.2.2.2.1) (by omega) (by omega)]
      have hm : ((l_0.length : Int) - (i + 1)).toNat < ((l_0.length : Int) - i).toNat := by omega
      have hn : 0 ≤ i ∧ i < (l_0.length : Int) := ⟨h0, c1⟩
      exact ⟨hn, by simp only [List.length_cons, List.length_nil]; decide, hn, hn, hn, ⟨⟨by omega, by omega, h2, h3, h4, h5, h6, by omega, by omega, by omega, by omega⟩, hm⟩, hQ'⟩
    · have c1 := of_decide_eq_false c1
      rw [drop_end c1, wghL_nil, Int.add_zero, show steL [] = 0 from rfl, Int.add_zero] at hQ'
      exact hQ'
theorem T_PipeWeighs (s0 : List Int) (a b : Int) : fnTree (P := P) [c_made.gc, c_awake.gc, c_Mod64.gc, c_Weight.gc] (lpOf [(0, R_PipeWeighsL)]) Try.f6 (encL 0 [.val tIs, .val tI, .val tI] (s0, a, b, ())) =
  Tree.need (pr_made (s0, ())) (Tree.cond (!(V_made (s0, ())).snd.snd.snd) (Tree.leaf (SV.bool true)) (Tree.need ((0 : Int) < (22001 : Int) ∧ R64 (22001 : Int)) (Tree.need ((0 : Int) < (22001 : Int) ∧ R64 (22001 : Int)) (Tree.need (inv_PipeWeighsL (a % (22001 : Int), b % (22001 : Int), (), (0 : Int), (0 : Int), (0 : Int), (V_made (s0, ())).snd.fst, ())) (Tree.need ((↑(List.length (V_made (s0, ())).snd.fst) : Int) < (2 : Int) ^ (62 : Nat)) (Tree.cond (wghS (V_made (s0, ())).snd.fst (a % (22001 : Int)) == (0 : Int) + wghL (a % (22001 : Int)) (List.drop (Int.toNat (0 : Int)) (V_made (s0, ())).snd.fst)) (Tree.need ((↑(List.length (V_made (s0, ())).snd.fst) : Int) < (2 : Int) ^ (62 : Nat)) (Tree.need ((↑(List.length (V_made (s0, ())).snd.fst) : Int) < (2 : Int) ^ (62 : Nat)) (Tree.cond (IntKind.wrap IntKind.i64 (wghS (V_made (s0, ())).snd.fst (b % (22001 : Int)) - wghS (V_made (s0, ())).snd.fst (a % (22001 : Int))) == IntKind.wrap IntKind.i64 (IntKind.wrap IntKind.i64 (a % (22001 : Int) - b % (22001 : Int)) * ((0 : Int) + steL (List.drop (Int.toNat (0 : Int)) (V_made (s0, ())).snd.fst)))) (Tree.leaf (SV.bool true)) (Tree.leaf (SV.bool false))))) (Tree.leaf (SV.bool false)))))))) := by kernel_rfl
def c_PipeWeighs : PC P := PC.of (α := List Int × Int × Int × Unit) 6 [.val tIs, .val tI, .val tI] (fun x => x) (fun x => x) (fun _ => rfl)
  (fun _ => none)
  (fun x => .bool true) (by kernel_rfl) (by
    rintro ⟨s0, a, b, ⟨⟩⟩ hp
    refine fn_of hm (by kernel_rfl) (by kernel_rfl) (T_PipeWeighs s0 a b) ⟨K_PipeWeighsL, trivial⟩ ?_
    try dsimp only at hp
    try dsimp only
    have hS := S_made (s0, ()) trivial
    generalize V_made (s0, ()) = m at *
    obtain ⟨p, l, c, is⟩ := m
    obtain ⟨h1, h2, h3, h4, h5, h6, h7, h8, h9, h10⟩ := hS
    dsimp only at h1 h2 h3 h4 h5 h6 h7 h8 h9 h10 ⊢
    have ha := Int.emod_nonneg a (show (22001 : Int) ≠ 0 by decide)
    have ha2 := Int.emod_lt_of_pos a (show (0 : Int) < 22001 by decide)
    have hb := Int.emod_nonneg b (show (22001 : Int) ≠ 0 by decide)
    have hb2 := Int.emod_lt_of_pos b (show (0 : Int) < 22001 by decide)
    have hR : (0 : Int) < 22001 ∧ R64 22001 := ⟨by decide, by decide, by decide⟩
    refine ⟨trivial, fun d1 => rfl, fun d1 => ?_⟩
    obtain ⟨hf, _⟩ := h2 (by simpa using d1)
    have hck := (fitsS_ok hf).1
    obtain ⟨_, _, _, hsum⟩ := checkT_ok hck
    generalize a % 22001 = x at *
    generalize b % 22001 = y at *
    have ex : wghS l x = wghL x l := by unfold wghS; rw [if_pos ⟨hck, by omega, by omega⟩]
    have ey : wghS l y = wghL y l := by unfold wghS; rw [if_pos ⟨hck, by omega, by omega⟩]
    have hd := wgh_diff x y ⟨ha, by omega⟩ ⟨hb, by omega⟩ l h4
    have hst := steL_rng l h4
    have rx := wghL_rng ha (show x ≤ 40000 by omega) l h4
    have ry := wghL_rng hb (show y ≤ 40000 by omega) l h4
    have hlen : (l.length : Int) < 2 ^ 62 := by omega
    have e0 : ∀ z : Int, 0 + z = z := Int.zero_add
    have hm := mulB (a := x - y) (b := steL l) (A := 22000) (B := 2560000000) (by omega) (by omega)
    simp only [Int.toNat_zero, List.drop_zero, e0, ex, ey]
    rw [W_id (n := wghL y l - wghL x l) (by omega) (by omega), W_id (n := x - y) (by omega) (by omega), W_id (n := (x - y) * steL l) (by omega) (by omega), hd]
    have e1 : ∀ z : Int, (z == z) = true := fun z => by simp
    rw [e1, e1]
    exact ⟨hR, hR, ⟨by decide, by omega, h6, h4, fun t ht => Int.le_trans (prod_le h4 t ht) hsum, ha, by omega, by decide, by decide, by decide, by decide⟩, hlen, fun _ => ⟨hlen, hlen, fun _ => rfl, fun h => (by cases h)⟩, fun h => (by cases h)⟩)
end
end Go.MP
