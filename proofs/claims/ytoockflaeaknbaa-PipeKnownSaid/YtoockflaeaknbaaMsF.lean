/- Numbers: the walks of roots, sides, bends, quotients, drags. -/
import Derived.Test.YtoockflaeaknbaaMsE
import Derived.Test.YtoockflaeaknbaaMqJ
import Derived.Laws.Bits64b
import Derived.Lib.Mul64
namespace Go.MP
open Go Go.Sx Go.Proofs
set_option linter.unusedVariables false
set_option linter.unusedSimpArgs false
noncomputable section
theorem shl_half (k : Nat) : (2 : Int) ^ (k + 1) / 2 = 2 ^ k := by rw [Int.pow_succ]; omega
def L_root31 : Lay := { slots := [(0, .val tI), (3, .val tI), (4, .val tI)] }
def L_root31_0 : Lay := { slots := [(3, .val tI)] }
def X_root31 : Exit → St → Option Lay
  | .exit 0, _ => some L_root31_0
  | _, _ => none
abbrev C_root31 : Code := loopC (bodyOf Try.f59) 0
theorem B_root31 (n r b : Int) : loopBodyA (P := P) [] (lpOf []) [] 22 noU (inner C_root31) L_root31 X_root31 (α := Int × Int × Int × Unit) (fun x => x) (fun x => x) (n, r, b, ()) =
  Tree.cond (decide (b > (0 : Int))) (Tree.cond (decide (IntKind.wrap IntKind.i64 (IntKind.wrap IntKind.i64 (r + b) * IntKind.wrap IntKind.i64 (r + b)) ≤ n)) (Tree.need ((0 : Int) ≤ (1 : Int)) (Tree.leaf (Sum.inl (n, IntKind.wrap IntKind.i64 (r + b), shrI IntKind.i64 b (1 : Int), PUnit.unit)))) (Tree.need ((0 : Int) ≤ (1 : Int)) (Tree.leaf (Sum.inl (n, r, shrI IntKind.i64 b (1 : Int), PUnit.unit))))) (Tree.leaf (Sum.inr (Exit.exit (0 : Nat), Lay.st L_root31_0 noU (r, PUnit.unit)))) := by kernel_rfl
def inv_root31 : Int × Int × Int × Unit → Prop := fun (n, r, b, ()) => 0 ≤ n ∧ n < 4611686018427387904 ∧ 0 ≤ r ∧ r + 2 * b ≤ 2147483648 ∧ ∃ k : Nat, b = 2 ^ k / 2 ∧ rootBits k n r = sqI n
def O_root31 : Int × Int × Int × Unit → Tree (Exit × St) := fun (n, r, b, ()) => (.leaf (.exit 0, L_root31_0.st noU ((sqI n), ())))
def R_root31 : LRun := runOf 22 L_root31 (fun x => x) (inv_root31) (O_root31)
theorem K_root31 : LoopOk P [] 22 none noU C_root31 (R_root31) := by
  refine loop_of hm (cx := []) [] (xl := X_root31) (α := Int × Int × Int × Unit) (fun x => x) (fun (n, r, b, ()) => b.toNat) (fun _ => rfl) (by kernel_rfl) (by kernel_rfl) ?_ (by kernel_rfl) trivial ?_
  · intro e S L' h
    unfold X_root31 at h
    split at h <;> first | (cases h; done) | (cases h; kernel_rfl) | (rcases bif_some h with h | h <;> cases h <;> kernel_rfl)
  · rintro ⟨n, r, b, ⟨⟩⟩ hinv Q hQ
    refine hold_of_eq (B_root31 n r b) ?_
    obtain ⟨h0, h1, h2, h3, k, hb, hk⟩ := hinv
    have hQ' : Q (.exit 0, L_root31_0.st noU (sqI n, ())) := hQ
    have hp : (0 : Int) < 2 ^ k := Int.pow_pos (by decide)
    cases k with
    | zero =>
      have hb0 : b = 0 := hb
      subst hb0
      have e : r = sqI n := hk
      rw [← e] at hQ'
      exact ⟨fun h => by simp at h, fun _ => hQ'⟩
    | succ k =>
      have hp' : (0 : Int) < 2 ^ k := Int.pow_pos (by decide)
      have hb' : b = 2 ^ k := by rw [hb, shl_half]
      have hsq := mul_rng (a := r + b) (b := r + b) (A := 2147483648) (B := 2147483648) (by omega) (by omega) (by omega) (by omega)
      rw [W_id (n := r + b) (by omega) (by omega), W_id (n := (r + b) * (r + b)) (by omega) (by omega), shr1]
      unfold rootBits at hk
      clear hb
      subst hb'
      refine ⟨fun _ => ⟨fun h => ⟨by decide, ?_⟩, fun h => ⟨by decide, ?_⟩⟩, fun h => by simp at h; omega⟩
      · have h := of_decide_eq_true h
        rw [if_pos h] at hk
        exact ⟨⟨⟨h0, h1, by omega, by omega, k, rfl, hk⟩, by show Int.toNat (2 ^ k / 2) < Int.toNat (2 ^ k); omega⟩, hQ'⟩
      · have h := of_decide_eq_false h
        rw [if_neg h] at hk
        exact ⟨⟨⟨h0, h1, h2, by omega, k, rfl, hk⟩, by show Int.toNat (2 ^ k / 2) < Int.toNat (2 ^ k); omega⟩, hQ'⟩
theorem T_proot (n : Int) : fnTree (P := P) [] (lpOf [(0, R_root31)]) Try.f59 (encL 0 [.val tI] (n, ())) =
  Tree.need (inv_root31 (n, (0 : Int), (1073741824 : Int), ())) (Tree.leaf (SV.int IntKind.i64 (sqI n))) := by kernel_rfl
def c_proot : PC P := PC.of (α := Int × Unit) 59 [.val tI] (fun x => x) (fun x => x) (fun _ => rfl)
  (fun x => some (0 ≤ x.1 ∧ x.1 < 4611686018427387904))
  (fun x => .int .i64 (sqI x.1)) (by kernel_rfl) (by
    rintro ⟨n, ⟨⟩⟩ hp
    refine fn_of hm (by kernel_rfl) (by kernel_rfl) (T_proot n) ⟨K_root31, trivial⟩ ?_
    try dsimp only at hp
    try dsimp only
    have hp' : 0 ≤ n ∧ n < 4611686018427387904 := hp
    exact ⟨⟨hp'.1, hp'.2, by omega, by omega, 31, by decide, rfl⟩, rfl⟩)
theorem T_Side (v_0 v_1 v_2 : Int) : fnTree (P := P) [c_proot.gc] (lpOf []) Try.f14 (encL 0 [.agg tV] ((v_0, (v_1, v_2)), ())) =
  Tree.cond (decide (minI (minI v_0 v_1) v_2 < (-16777216 : Int))) (Tree.leaf (SV.agg [SV.int IntKind.i64 (0 : Int), SV.int IntKind.i64 (0 : Int)])) (Tree.cond (decide (maxI (maxI v_0 v_1) v_2 > (16777216 : Int))) (Tree.leaf (SV.agg [SV.int IntKind.i64 (0 : Int), SV.int IntKind.i64 (0 : Int)])) (Tree.need ((0 : Int) ≤ IntKind.wrap IntKind.i64 (IntKind.wrap IntKind.i64 (v_0 * v_0) + IntKind.wrap IntKind.i64 (v_1 * v_1)) ∧ IntKind.wrap IntKind.i64 (IntKind.wrap IntKind.i64 (v_0 * v_0) + IntKind.wrap IntKind.i64 (v_1 * v_1)) < (4611686018427387904 : Int)) (Tree.cond (IntKind.wrap IntKind.i64 (sqI (IntKind.wrap IntKind.i64 (IntKind.wrap IntKind.i64 (v_0 * v_0) + IntKind.wrap IntKind.i64 (v_1 * v_1))) * sqI (IntKind.wrap IntKind.i64 (IntKind.wrap IntKind.i64 (v_0 * v_0) + IntKind.wrap IntKind.i64 (v_1 * v_1)))) == IntKind.wrap IntKind.i64 (IntKind.wrap IntKind.i64 (v_0 * v_0) + IntKind.wrap IntKind.i64 (v_1 * v_1))) (Tree.leaf (SV.agg [SV.int IntKind.i64 (sqI (IntKind.wrap IntKind.i64 (IntKind.wrap IntKind.i64 (v_0 * v_0) + IntKind.wrap IntKind.i64 (v_1 * v_1)))), SV.int IntKind.i64 (sqI (IntKind.wrap IntKind.i64 (IntKind.wrap IntKind.i64 (v_0 * v_0) + IntKind.wrap IntKind.i64 (v_1 * v_1))))])) (Tree.leaf (SV.agg [SV.int IntKind.i64 (sqI (IntKind.wrap IntKind.i64 (IntKind.wrap IntKind.i64 (v_0 * v_0) + IntKind.wrap IntKind.i64 (v_1 * v_1)))), SV.int IntKind.i64 (IntKind.wrap IntKind.i64 (sqI (IntKind.wrap IntKind.i64 (IntKind.wrap IntKind.i64 (v_0 * v_0) + IntKind.wrap IntKind.i64 (v_1 * v_1))) + (1 : Int)))]))))) := by kernel_rfl
def c_Side : PC P := PC.of (α := V × Unit) 14 [.agg tV] (fun x => x) (fun x => x) (fun _ => rfl)
  (fun _ => none)
  (fun x => .agg [.int .i64 (sideS x.1).1, .int .i64 (sideS x.1).2]) (by kernel_rfl) (by
    rintro ⟨⟨v_0, ⟨v_1, v_2⟩⟩, ⟨⟩⟩ hp
    refine fn_of hm (by kernel_rfl) (by kernel_rfl) (T_Side v_0 v_1 v_2) trivial ?_
    try dsimp only at hp
    try dsimp only
    show Tree.holds (fun s => s = SV.agg [.int .i64 (sideS (v_0, v_1, v_2)).1, .int .i64 (sideS (v_0, v_1, v_2)).2]) _
    have hin : inB (v_0, v_1, v_2) 16777216 = true → IntKind.wrap IntKind.i64 (IntKind.wrap IntKind.i64 (v_0 * v_0) + IntKind.wrap IntKind.i64 (v_1 * v_1)) = v_0 * v_0 + v_1 * v_1 ∧ 0 ≤ v_0 * v_0 + v_1 * v_1 ∧ v_0 * v_0 + v_1 * v_1 < 4611686018427387904 := by
      intro h
      rw [inB_iff] at h
      have x1 := mulB h.1 h.1
      have x2 := mulB h.2.1 h.2.1
      have x3 := sq_nonneg v_0
      have x4 := sq_nonneg v_1
      dsimp only at x1 x2
      rw [W_id (n := v_0 * v_0) (by omega) (by omega), W_id (n := v_1 * v_1) (by omega) (by omega), W_id (by omega) (by omega)]
      omega
    unfold sideS
    refine ⟨fun c1 => ?_, fun c1 => ⟨fun c2 => ?_, fun c2 => ?_⟩⟩
    · have c1 := of_decide_eq_true c1
      rw [minI_eq, minI_eq] at c1
      rw [if_neg (by rw [inB_iff]; dsimp only; omega)]
      exact rfl
    · have c2 := of_decide_eq_true c2
      rw [maxI_eq, maxI_eq] at c2
      rw [if_neg (by rw [inB_iff]; dsimp only; omega)]
      exact rfl
    · have c1 := of_decide_eq_false c1
      have c2 := of_decide_eq_false c2
      rw [minI_eq, minI_eq] at c1
      rw [maxI_eq, maxI_eq] at c2
      have h : inB (v_0, v_1, v_2) 16777216 = true := by rw [inB_iff]; dsimp only; omega
      obtain ⟨e1, e2, e3⟩ := hin h
      rw [if_pos h, e1]
      dsimp only
      obtain ⟨s0, s1, s2⟩ := sqI_ok e2 e3
      have h3 := sqI_lt e2 e3
      have h4 := sq_nonneg (sqI (v_0 * v_0 + v_1 * v_1))
      unfold rootsS
      rw [W_id (n := sqI (v_0 * v_0 + v_1 * v_1) * sqI (v_0 * v_0 + v_1 * v_1)) (by omega) (by omega), W_id (n := sqI (v_0 * v_0 + v_1 * v_1) + 1) (by omega) (by omega)]
      refine ⟨⟨e2, e3⟩, fun c => ?_, fun c => ?_⟩
      · rw [if_pos (eq_of_beq c)]; exact rfl
      · rw [if_neg (by simpa using c)]; exact rfl)
theorem shr32u (a : Int) : shrI .u64 a 32 = a / 4294967296 := by
  show a.fdiv 4294967296 = a / 4294967296
  rw [Int.fdiv_eq_ediv_of_nonneg a (by decide)]
theorem maskN (a : Nat) (ha : a < 18446744073709551616) : bits .and .u64 (a : Int) 4294967295 = ((a % 4294967296 : Nat) : Int) := by
  have h := bits_and_u64_nat a 4294967295 ha (by omega)
  have e : a &&& 4294967295 = a % 4294967296 := Nat.and_two_pow_sub_one_eq_mod a 32
  rw [e] at h
  exact h
theorem divN (a : Nat) : (a : Int) / 4294967296 = ((a / 4294967296 : Nat) : Int) := by omega
theorem mulN (a b : Nat) : (a : Int) * (b : Int) = ((a * b : Nat) : Int) := (Int.natCast_mul a b).symm
theorem addN (a b : Nat) : (a : Int) + (b : Int) = ((a + b : Nat) : Int) := (Int.natCast_add a b).symm
theorem wrapN (a : Nat) (ha : a < 18446744073709551616) : IntKind.u64.wrap (a : Int) = (a : Int) := by rw [IntKind.wrap_u64]; omega
theorem wrapM (a : Nat) : IntKind.u64.wrap (a : Int) = ((a % 18446744073709551616 : Nat) : Int) := by rw [IntKind.wrap_u64]; omega
theorem divN64 (a : Nat) : (a : Int) / 18446744073709551616 = ((a / 18446744073709551616 : Nat) : Int) := by omega
theorem modN64 (a : Nat) : (a : Int) % 18446744073709551616 = ((a % 18446744073709551616 : Nat) : Int) := by omega
theorem T_Mul64 (x y : Int) : fnTree (P := P) [] (lpOf []) Try.f64 (encL 0 [.val (.int .u64), .val (.int .u64)] (x, y, ())) =
  Tree.need ((0 : Int) ≤ (32 : Int)) (Tree.need ((0 : Int) ≤ (32 : Int)) (Tree.need ((0 : Int) ≤ (32 : Int)) (Tree.need ((0 : Int) ≤ (32 : Int)) (Tree.need ((0 : Int) ≤ (32 : Int)) (Tree.leaf (SV.tup [SV.int IntKind.u64 (IntKind.wrap IntKind.u64 (IntKind.wrap IntKind.u64 (IntKind.wrap IntKind.u64 (shrI IntKind.u64 x (32 : Int) * shrI IntKind.u64 y (32 : Int)) + shrI IntKind.u64 (IntKind.wrap IntKind.u64 (IntKind.wrap IntKind.u64 (shrI IntKind.u64 x (32 : Int) * bits BinOp.and IntKind.u64 y (4294967295 : Int)) + shrI IntKind.u64 (IntKind.wrap IntKind.u64 (bits BinOp.and IntKind.u64 x (4294967295 : Int) * bits BinOp.and IntKind.u64 y (4294967295 : Int))) (32 : Int))) (32 : Int)) + shrI IntKind.u64 (IntKind.wrap IntKind.u64 (bits BinOp.and IntKind.u64 (IntKind.wrap IntKind.u64 (IntKind.wrap IntKind.u64 (shrI IntKind.u64 x (32 : Int) * bits BinOp.and IntKind.u64 y (4294967295 : Int)) + shrI IntKind.u64 (IntKind.wrap IntKind.u64 (bits BinOp.and IntKind.u64 x (4294967295 : Int) * bits BinOp.and IntKind.u64 y (4294967295 : Int))) (32 : Int))) (4294967295 : Int) + IntKind.wrap IntKind.u64 (bits BinOp.and IntKind.u64 x (4294967295 : Int) * shrI IntKind.u64 y (32 : Int)))) (32 : Int))), SV.int IntKind.u64 (IntKind.wrap IntKind.u64 (x * y))])))))) := by kernel_rfl
def c_Mul64 : PC P := PC.of (α := Int × Int × Unit) 64 [.val (.int .u64), .val (.int .u64)] (fun x => x) (fun x => x) (fun _ => rfl)
  (fun x => some (0 ≤ x.1 ∧ x.1 < 18446744073709551616 ∧ 0 ≤ x.2.1 ∧ x.2.1 < 18446744073709551616))
  (fun x => .tup [.int .u64 (x.1 * x.2.1 / 18446744073709551616), .int .u64 (x.1 * x.2.1 % 18446744073709551616)]) (by kernel_rfl) (by
    rintro ⟨x, y, ⟨⟩⟩ hp
    refine fn_of hm (by kernel_rfl) (by kernel_rfl) (T_Mul64 x y) trivial ?_
    try dsimp only at hp
    try dsimp only
    obtain ⟨h0, h1, h2, h3⟩ : 0 ≤ x ∧ x < 18446744073709551616 ∧ 0 ≤ y ∧ y < 18446744073709551616 := hp
    obtain ⟨X, rfl⟩ := Int.eq_ofNat_of_zero_le h0
    obtain ⟨Y, rfl⟩ := Int.eq_ofNat_of_zero_le h2
    have hx : X < 18446744073709551616 := by omega
    have hy : Y < 18446744073709551616 := by omega
    obtain ⟨bd, bt, bw, hhi⟩ := Lib.mul64_hi X Y hx hy
    have ba := Lib.half_mul_le (a := X / 4294967296) (b := Y / 4294967296) (by omega) (by omega)
    have bb := Lib.half_mul_le (a := X / 4294967296) (b := Y % 4294967296) (by omega) (by omega)
    have bc := Lib.half_mul_le (a := X % 4294967296) (b := Y / 4294967296) (by omega) (by omega)
    have ba' : X / 4294967296 * (Y / 4294967296) < 18446744073709551616 := by omega
    have bb' : X / 4294967296 * (Y % 4294967296) < 18446744073709551616 := by omega
    have bc' : X % 4294967296 * (Y / 4294967296) < 18446744073709551616 := by omega
    have bh1 : X / 4294967296 * (Y / 4294967296) + (X / 4294967296 * (Y % 4294967296) + X % 4294967296 * (Y % 4294967296) / 4294967296) / 4294967296 < 18446744073709551616 := by omega
    have bh : X / 4294967296 * (Y / 4294967296) + (X / 4294967296 * (Y % 4294967296) + X % 4294967296 * (Y % 4294967296) / 4294967296) / 4294967296 + ((X / 4294967296 * (Y % 4294967296) + X % 4294967296 * (Y % 4294967296) / 4294967296) % 4294967296 + X % 4294967296 * (Y / 4294967296)) / 4294967296 < 18446744073709551616 := by omega
    refine ⟨by decide, by decide, by decide, by decide, by decide, ?_⟩
    show SV.tup _ = SV.tup [.int .u64 ((X : Int) * (Y : Int) / 18446744073709551616), .int .u64 ((X : Int) * (Y : Int) % 18446744073709551616)]
    simp only [shr32u, maskN X hx, maskN Y hy, divN, mulN, addN, wrapN _ bd, wrapN _ bb', wrapN _ bt, maskN _ bt, wrapN _ bc', wrapN _ bw, wrapN _ ba', wrapN _ bh1, wrapN _ bh, wrapM (X * Y), divN64, modN64]
    rw [hhi])
def collapse {β : Type} : Tree β → Tree β
  | .leaf b => .leaf b
  | .cond c t e => bif c then collapse t else collapse e
  | .need p t => .need p (collapse t)
  | .fail n => .fail n
theorem collapse_holds {β : Type} {Q : β → Prop} : ∀ {t : Tree β}, (collapse t).holds Q → t.holds Q
  | .leaf b, h => h
  | .cond true t e, h => ⟨fun _ => collapse_holds (t := t) h, fun k => (by cases k)⟩
  | .cond false t e, h => ⟨fun k => (by cases k), fun _ => collapse_holds (t := e) h⟩
  | .need p t, h => ⟨h.1, collapse_holds h.2⟩
  | .fail n, h => h
theorem fn_closed {cx : List (GC P)} {lps : List (Nat × LRun)} {f : FuncId} {fn : Func} (hf : P.funcs[f]? = some fn) {args : List SV} {res : SV} (hn : nodupB ((loopsOf 0 (bodyOf fn)).map (·.1)) = true)
    {T : Tree SV} (ht : collapse (fnTree cx (lpOf lps) fn args) = T) (hl : AllK P [] fn.ntmps none noU (bodyOf fn) lps) (h : T.holds fun s => s = res) : FnOk P f args res :=
  fn_of hm hf hn rfl hl (collapse_holds (by rw [ht]; exact h))
def c_Len64 : PC P := PC.of (α := Int × Unit) 141 [.val (.int .u64)] (fun x => x) (fun x => x) (fun _ => rfl) (fun x => some (x.1 = 1000000000)) (fun _ => .int .i64 30) (by kernel_rfl)
  (by
    rintro ⟨n, ⟨⟩⟩ hp
    obtain rfl : n = 1000000000 := hp
    exact fn_closed (fn := Try.f141) (cx := []) (lps := []) (by kernel_rfl) (by kernel_rfl) (T := .need ((0 : Int) ≤ 16) (.need ((0 : Int) ≤ 8) (.need ((0 : Int) ≤ 59 ∧ (59 : Int) < 256) (.leaf (.int .i64 30))))) (by kernel_rfl) trivial ⟨by decide, by decide, by decide, rfl⟩)
theorem T_Lead64 (x : Int) : fnTree (P := P) [c_Len64.gc] (lpOf []) Try.f140 (encL 0 [.val (.int .u64)] (x, ())) =
  Tree.need (x = (1000000000 : Int)) (Tree.leaf (SV.int IntKind.i64 (IntKind.wrap IntKind.i64 ((64 : Int) - (30 : Int))))) := by kernel_rfl
def c_Lead64 : PC P := PC.of (α := Int × Unit) 140 [.val (.int .u64)] (fun x => x) (fun x => x) (fun _ => rfl)
  (fun x => some (x.1 = 1000000000))
  (fun x => .int .i64 34) (by kernel_rfl) (by
    rintro ⟨x, ⟨⟩⟩ hp
    refine fn_of hm (by kernel_rfl) (by kernel_rfl) (T_Lead64 x) trivial ?_
    try dsimp only at hp
    try dsimp only
    exact ⟨hp, rfl⟩)
theorem U_eq (n : Int) : IntKind.wrap .u64 n = n % 18446744073709551616 := by rw [IntKind.wrap_u64]
theorem e34 : IntKind.wrap .u64 34 = 34 := by kernel_rfl
theorem e30 : IntKind.wrap .u64 (64 - 34) = 30 := by kernel_rfl
theorem eY : shlI .u64 1000000000 34 = 17179869184000000000 := by kernel_rfl
theorem eY0 : bits .and .u64 17179869184000000000 4294967295 = 0 := by kernel_rfl
theorem shl34 (a : Int) : shlI .u64 a 34 = a * 17179869184 % 18446744073709551616 := by
  show IntKind.wrap .u64 (a * 17179869184) = _
  rw [U_eq]
theorem shr30u (a : Int) : shrI .u64 a 30 = a / 1073741824 := by
  show a.fdiv 1073741824 = _
  rw [Int.fdiv_eq_ediv_of_nonneg a (by decide)]
theorem shr34u (a : Int) : shrI .u64 a 34 = a / 17179869184 := by
  show a.fdiv 17179869184 = _
  rw [Int.fdiv_eq_ediv_of_nonneg a (by decide)]
theorem maskI {a : Int} (h0 : 0 ≤ a) (h1 : a < 18446744073709551616) : bits .and .u64 a 4294967295 = a % 4294967296 := by
  obtain ⟨A, rfl⟩ := Int.eq_ofNat_of_zero_le h0
  rw [maskN A (by omega)]; omega
theorem orI {a b : Int} (h0 : 0 ≤ a) (h1 : a < 1073741824) (h2 : 0 ≤ b) (h3 : b < 17179869184) : bits .or .u64 (a * 17179869184) b = a * 17179869184 + b := by
  obtain ⟨A, rfl⟩ := Int.eq_ofNat_of_zero_le h0
  obtain ⟨B, rfl⟩ := Int.eq_ofNat_of_zero_le h2
  have e1 : ((A : Int) * 17179869184) = ((A * 17179869184 : Nat) : Int) := by omega
  have hor : 2 ^ 34 * A + B = 2 ^ 34 * A ||| B := Nat.two_pow_add_eq_or_of_lt (by omega) A
  rw [e1, bits_or_u64_nat _ _ (by omega) (by omega)]
  rw [show A * 17179869184 = 2 ^ 34 * A by omega, ← hor]
  omega
def L_Div0 : Lay := { slots := [(2, .val (.int .u64)), (8, .val (.int .u64)), (9, .val (.int .u64)), (10, .val (.int .u64)), (11, .val (.int .u64)), (13, .val (.int .u64)), (14, .val (.int .u64)), (15, .val (.int .u64)), (16, .val (.int .u64))] }
def L_Div0_0 : Lay := { slots := [(2, .val (.int .u64)), (8, .val (.int .u64)), (9, .val (.int .u64)), (10, .val (.int .u64)), (11, .val (.int .u64)), (13, .val (.int .u64)), (14, .val (.int .u64)), (15, .val (.int .u64))] }
def X_Div0 : Exit → St → Option Lay
  | .exit 0, _ => some L_Div0_0
  | _, _ => none
abbrev C_Div0 : Code := loopC (bodyOf Try.f139) 0
theorem B_Div0 (y s y1 y0 u32 u1 u0 q1 rh : Int) : loopBodyA (P := P) [] (lpOf []) [] 135 noU (inner C_Div0) L_Div0 X_Div0 (α := Int × Int × Int × Int × Int × Int × Int × Int × Int × Unit) (fun x => x) (fun x => x) (y, s, y1, y0, u32, u1, u0, q1, rh, ()) =
  Tree.cond (decide (q1 ≥ (4294967296 : Int))) (Tree.cond (decide (IntKind.wrap IntKind.u64 (rh + y1) ≥ (4294967296 : Int))) (Tree.leaf (Sum.inr (Exit.exit (0 : Nat), Lay.st L_Div0_0 noU (y, s, y1, y0, u32, u1, u0, IntKind.wrap IntKind.u64 (q1 - (1 : Int)), PUnit.unit)))) (Tree.leaf (Sum.inl (y, s, y1, y0, u32, u1, u0, IntKind.wrap IntKind.u64 (q1 - (1 : Int)), IntKind.wrap IntKind.u64 (rh + y1), PUnit.unit)))) (Tree.cond (decide (IntKind.wrap IntKind.u64 (q1 * y0) > IntKind.wrap IntKind.u64 (IntKind.wrap IntKind.u64 ((4294967296 : Int) * rh) + u1))) (Tree.cond (decide (IntKind.wrap IntKind.u64 (rh + y1) ≥ (4294967296 : Int))) (Tree.leaf (Sum.inr (Exit.exit (0 : Nat), Lay.st L_Div0_0 noU (y, s, y1, y0, u32, u1, u0, IntKind.wrap IntKind.u64 (q1 - (1 : Int)), PUnit.unit)))) (Tree.leaf (Sum.inl (y, s, y1, y0, u32, u1, u0, IntKind.wrap IntKind.u64 (q1 - (1 : Int)), IntKind.wrap IntKind.u64 (rh + y1), PUnit.unit)))) (Tree.leaf (Sum.inr (Exit.exit (0 : Nat), Lay.st L_Div0_0 noU (y, s, y1, y0, u32, u1, u0, q1, PUnit.unit))))) := by kernel_rfl
def inv_Div0 : Int × Int × Int × Int × Int × Int × Int × Int × Int × Unit → Prop := fun (y, s, y1, y0, u32, u1, u0, q1, rh, ()) => y0 = 0 ∧ 0 ≤ q1 ∧ q1 < 4294967296
def O_Div0 : Int × Int × Int × Int × Int × Int × Int × Int × Int × Unit → Tree (Exit × St) := fun (y, s, y1, y0, u32, u1, u0, q1, rh, ()) => (.leaf (.exit 0, L_Div0_0.st noU (y, s, y1, y0, u32, u1, u0, q1, ())))
def R_Div0 : LRun := runOf 135 L_Div0 (fun x => x) (inv_Div0) (O_Div0)
theorem K_Div0 : LoopOk P [] 135 none noU C_Div0 (R_Div0) := by
  refine loop_of hm (cx := []) [] (xl := X_Div0) (α := Int × Int × Int × Int × Int × Int × Int × Int × Int × Unit) (fun x => x) (fun (y, s, y1, y0, u32, u1, u0, q1, rh, ()) => 0) (fun _ => rfl) (by kernel_rfl) (by kernel_rfl) ?_ (by kernel_rfl) trivial ?_
  · intro e S L' h
    unfold X_Div0 at h
    split at h <;> first | (cases h; done) | (cases h; kernel_rfl) | (rcases bif_some h with h | h <;> cases h <;> kernel_rfl)
  · rintro ⟨y, s, y1, y0, u32, u1, u0, q1, rh, ⟨⟩⟩ hinv Q hQ
    refine hold_of_eq (B_Div0 y s y1 y0 u32 u1 u0 q1 rh) ?_
    obtain ⟨h0, h1, h2⟩ := hinv
    refine ⟨fun c => absurd (of_decide_eq_true c) (by omega), fun _ => ⟨fun c => ?_, fun _ => hQ⟩⟩
    have c := of_decide_eq_true c
    have hw : ∀ n, 0 ≤ IntKind.wrap .u64 n := fun n => by rw [IntKind.wrap_u64]; omega
    have hz : IntKind.wrap .u64 (q1 * y0) = 0 := by rw [h0, Int.mul_zero]; rfl
    rw [hz] at c
    exact absurd c (by have := hw (IntKind.u64.wrap (4294967296 * rh) + u1); omega)
def L_Div2 : Lay := { slots := [(2, .val (.int .u64)), (8, .val (.int .u64)), (9, .val (.int .u64)), (10, .val (.int .u64)), (14, .val (.int .u64)), (15, .val (.int .u64)), (16, .val (.int .u64)), (17, .val (.int .u64)), (18, .val (.int .u64))] }
def L_Div2_0 : Lay := { slots := [(2, .val (.int .u64)), (8, .val (.int .u64)), (14, .val (.int .u64)), (15, .val (.int .u64)), (17, .val (.int .u64)), (18, .val (.int .u64))] }
def X_Div2 : Exit → St → Option Lay
  | .exit 2, _ => some L_Div2_0
  | _, _ => none
abbrev C_Div2 : Code := loopC (bodyOf Try.f139) 2
theorem B_Div2 (y s y1 y0 u0 q1 rh u21 q0 : Int) : loopBodyA (P := P) [] (lpOf []) [] 135 noU (inner C_Div2) L_Div2 X_Div2 (α := Int × Int × Int × Int × Int × Int × Int × Int × Int × Unit) (fun x => x) (fun x => x) (y, s, y1, y0, u0, q1, rh, u21, q0, ()) =
  Tree.cond (decide (q0 ≥ (4294967296 : Int))) (Tree.cond (decide (IntKind.wrap IntKind.u64 (rh + y1) ≥ (4294967296 : Int))) (Tree.leaf (Sum.inr (Exit.exit (2 : Nat), Lay.st L_Div2_0 noU (y, s, u0, q1, u21, IntKind.wrap IntKind.u64 (q0 - (1 : Int)), PUnit.unit)))) (Tree.leaf (Sum.inl (y, s, y1, y0, u0, q1, IntKind.wrap IntKind.u64 (rh + y1), u21, IntKind.wrap IntKind.u64 (q0 - (1 : Int)), PUnit.unit)))) (Tree.cond (decide (IntKind.wrap IntKind.u64 (q0 * y0) > IntKind.wrap IntKind.u64 (IntKind.wrap IntKind.u64 ((4294967296 : Int) * rh) + u0))) (Tree.cond (decide (IntKind.wrap IntKind.u64 (rh + y1) ≥ (4294967296 : Int))) (Tree.leaf (Sum.inr (Exit.exit (2 : Nat), Lay.st L_Div2_0 noU (y, s, u0, q1, u21, IntKind.wrap IntKind.u64 (q0 - (1 : Int)), PUnit.unit)))) (Tree.leaf (Sum.inl (y, s, y1, y0, u0, q1, IntKind.wrap IntKind.u64 (rh + y1), u21, IntKind.wrap IntKind.u64 (q0 - (1 : Int)), PUnit.unit)))) (Tree.leaf (Sum.inr (Exit.exit (2 : Nat), Lay.st L_Div2_0 noU (y, s, u0, q1, u21, q0, PUnit.unit))))) := by kernel_rfl
def inv_Div2 : Int × Int × Int × Int × Int × Int × Int × Int × Int × Unit → Prop := fun (y, s, y1, y0, u0, q1, rh, u21, q0, ()) => y0 = 0 ∧ 0 ≤ q0 ∧ q0 < 4294967296
def O_Div2 : Int × Int × Int × Int × Int × Int × Int × Int × Int × Unit → Tree (Exit × St) := fun (y, s, y1, y0, u0, q1, rh, u21, q0, ()) => (.leaf (.exit 2, L_Div2_0.st noU (y, s, u0, q1, u21, q0, ())))
def R_Div2 : LRun := runOf 135 L_Div2 (fun x => x) (inv_Div2) (O_Div2)
theorem K_Div2 : LoopOk P [] 135 none noU C_Div2 (R_Div2) := by
  refine loop_of hm (cx := []) [] (xl := X_Div2) (α := Int × Int × Int × Int × Int × Int × Int × Int × Int × Unit) (fun x => x) (fun (y, s, y1, y0, u0, q1, rh, u21, q0, ()) => 0) (fun _ => rfl) (by kernel_rfl) (by kernel_rfl) ?_ (by kernel_rfl) trivial ?_
  · intro e S L' h
    unfold X_Div2 at h
    split at h <;> first | (cases h; done) | (cases h; kernel_rfl) | (rcases bif_some h with h | h <;> cases h <;> kernel_rfl)
  · rintro ⟨y, s, y1, y0, u0, q1, rh, u21, q0, ⟨⟩⟩ hinv Q hQ
    refine hold_of_eq (B_Div2 y s y1 y0 u0 q1 rh u21 q0) ?_
    obtain ⟨h0, h1, h2⟩ := hinv
    refine ⟨fun c => absurd (of_decide_eq_true c) (by omega), fun _ => ⟨fun c => ?_, fun _ => hQ⟩⟩
    have c := of_decide_eq_true c
    have hw : ∀ n, 0 ≤ IntKind.wrap .u64 n := fun n => by rw [IntKind.wrap_u64]; omega
    have hz : IntKind.wrap .u64 (q0 * y0) = 0 := by rw [h0, Int.mul_zero]; rfl
    rw [hz] at c
    exact absurd c (by have := hw (IntKind.u64.wrap (4294967296 * rh) + u0); omega)
theorem T_Div64 (h l y : Int) (x2_ : Int) (hx2_ : x2_ = (IntKind.wrap IntKind.u64 (34 : Int))) (x3_ : Int) (hx3_ : x3_ = (IntKind.wrap IntKind.u64 ((64 : Int) - IntKind.wrap IntKind.u64 (34 : Int)))) (x1_ : Int) (hx1_ : x1_ = (IntKind.wrap IntKind.u64 (IntKind.wrap IntKind.u64 (IntKind.wrap IntKind.u64 (bits BinOp.or IntKind.u64 (shlI IntKind.u64 h x2_) (shrI IntKind.u64 l x3_) * (4294967296 : Int)) + shrI IntKind.u64 (shlI IntKind.u64 l x2_) (32 : Int)) - IntKind.wrap IntKind.u64 (IntKind.wrap IntKind.u64 (Int.tdiv (bits BinOp.or IntKind.u64 (shlI IntKind.u64 h x2_) (shrI IntKind.u64 l x3_)) (shrI IntKind.u64 (shlI IntKind.u64 y x2_) (32 : Int))) * shlI IntKind.u64 y x2_)))) : fnTree (P := P) [c_Lead64.gc] (lpOf [(0, R_Div0), (2, R_Div2)]) Try.f139 (encL 0 [.val (.int .u64), .val (.int .u64), .val (.int .u64)] (h, l, y, ())) =
  Tree.cond (y == (0 : Int)) (Tree.fail (1021 : Nat)) (Tree.cond (decide (y ≤ h)) (Tree.fail (1025 : Nat)) (Tree.cond (h == (0 : Int)) (Tree.need (y ≠ (0 : Int)) (Tree.need (y ≠ (0 : Int)) (Tree.leaf (SV.tup [SV.int IntKind.u64 (IntKind.wrap IntKind.u64 (Int.tdiv l y)), SV.int IntKind.u64 (Int.tmod l y)])))) (Tree.need (y = (1000000000 : Int)) (Tree.need ((0 : Int) ≤ IntKind.wrap IntKind.u64 (34 : Int)) (Tree.need ((0 : Int) ≤ (32 : Int)) (Tree.need ((0 : Int) ≤ IntKind.wrap IntKind.u64 (34 : Int)) (Tree.need ((0 : Int) ≤ IntKind.wrap IntKind.u64 ((64 : Int) - IntKind.wrap IntKind.u64 (34 : Int))) (Tree.need ((0 : Int) ≤ IntKind.wrap IntKind.u64 (34 : Int)) (Tree.need ((0 : Int) ≤ (32 : Int)) (Tree.need (shrI IntKind.u64 (shlI IntKind.u64 y x2_) (32 : Int) ≠ (0 : Int)) (Tree.need (inv_Div0 (shlI IntKind.u64 y x2_, IntKind.wrap IntKind.u64 (34 : Int), shrI IntKind.u64 (shlI IntKind.u64 y x2_) (32 : Int), bits BinOp.and IntKind.u64 (shlI IntKind.u64 y x2_) (4294967295 : Int), bits BinOp.or IntKind.u64 (shlI IntKind.u64 h x2_) (shrI IntKind.u64 l x3_), shrI IntKind.u64 (shlI IntKind.u64 l x2_) (32 : Int), bits BinOp.and IntKind.u64 (shlI IntKind.u64 l x2_) (4294967295 : Int), IntKind.wrap IntKind.u64 (Int.tdiv (bits BinOp.or IntKind.u64 (shlI IntKind.u64 h x2_) (shrI IntKind.u64 l x3_)) (shrI IntKind.u64 (shlI IntKind.u64 y x2_) (32 : Int))), IntKind.wrap IntKind.u64 (bits BinOp.or IntKind.u64 (shlI IntKind.u64 h x2_) (shrI IntKind.u64 l x3_) - IntKind.wrap IntKind.u64 (IntKind.wrap IntKind.u64 (Int.tdiv (bits BinOp.or IntKind.u64 (shlI IntKind.u64 h x2_) (shrI IntKind.u64 l x3_)) (shrI IntKind.u64 (shlI IntKind.u64 y x2_) (32 : Int))) * shrI IntKind.u64 (shlI IntKind.u64 y x2_) (32 : Int))), ())) (Tree.need (shrI IntKind.u64 (shlI IntKind.u64 y x2_) (32 : Int) ≠ (0 : Int)) (Tree.need (inv_Div2 (shlI IntKind.u64 y x2_, IntKind.wrap IntKind.u64 (34 : Int), shrI IntKind.u64 (shlI IntKind.u64 y x2_) (32 : Int), bits BinOp.and IntKind.u64 (shlI IntKind.u64 y x2_) (4294967295 : Int), bits BinOp.and IntKind.u64 (shlI IntKind.u64 l x2_) (4294967295 : Int), IntKind.wrap IntKind.u64 (Int.tdiv (bits BinOp.or IntKind.u64 (shlI IntKind.u64 h x2_) (shrI IntKind.u64 l x3_)) (shrI IntKind.u64 (shlI IntKind.u64 y x2_) (32 : Int))), IntKind.wrap IntKind.u64 (IntKind.wrap IntKind.u64 (IntKind.wrap IntKind.u64 (IntKind.wrap IntKind.u64 (bits BinOp.or IntKind.u64 (shlI IntKind.u64 h x2_) (shrI IntKind.u64 l x3_) * (4294967296 : Int)) + shrI IntKind.u64 (shlI IntKind.u64 l x2_) (32 : Int)) - IntKind.wrap IntKind.u64 (IntKind.wrap IntKind.u64 (Int.tdiv (bits BinOp.or IntKind.u64 (shlI IntKind.u64 h x2_) (shrI IntKind.u64 l x3_)) (shrI IntKind.u64 (shlI IntKind.u64 y x2_) (32 : Int))) * shlI IntKind.u64 y x2_)) - IntKind.wrap IntKind.u64 (IntKind.wrap IntKind.u64 (Int.tdiv x1_ (shrI IntKind.u64 (shlI IntKind.u64 y x2_) (32 : Int))) * shrI IntKind.u64 (shlI IntKind.u64 y x2_) (32 : Int))), IntKind.wrap IntKind.u64 (IntKind.wrap IntKind.u64 (IntKind.wrap IntKind.u64 (bits BinOp.or IntKind.u64 (shlI IntKind.u64 h x2_) (shrI IntKind.u64 l x3_) * (4294967296 : Int)) + shrI IntKind.u64 (shlI IntKind.u64 l x2_) (32 : Int)) - IntKind.wrap IntKind.u64 (IntKind.wrap IntKind.u64 (Int.tdiv (bits BinOp.or IntKind.u64 (shlI IntKind.u64 h x2_) (shrI IntKind.u64 l x3_)) (shrI IntKind.u64 (shlI IntKind.u64 y x2_) (32 : Int))) * shlI IntKind.u64 y x2_)), IntKind.wrap IntKind.u64 (Int.tdiv x1_ (shrI IntKind.u64 (shlI IntKind.u64 y x2_) (32 : Int))), ())) (Tree.need ((0 : Int) ≤ IntKind.wrap IntKind.u64 (34 : Int)) (Tree.leaf (SV.tup [SV.int IntKind.u64 (IntKind.wrap IntKind.u64 (IntKind.wrap IntKind.u64 (IntKind.wrap IntKind.u64 (Int.tdiv (bits BinOp.or IntKind.u64 (shlI IntKind.u64 h x2_) (shrI IntKind.u64 l x3_)) (shrI IntKind.u64 (shlI IntKind.u64 y x2_) (32 : Int))) * (4294967296 : Int)) + IntKind.wrap IntKind.u64 (Int.tdiv x1_ (shrI IntKind.u64 (shlI IntKind.u64 y x2_) (32 : Int))))), SV.int IntKind.u64 (shrI IntKind.u64 (IntKind.wrap IntKind.u64 (IntKind.wrap IntKind.u64 (IntKind.wrap IntKind.u64 (IntKind.wrap IntKind.u64 (IntKind.wrap IntKind.u64 (IntKind.wrap IntKind.u64 (bits BinOp.or IntKind.u64 (shlI IntKind.u64 h x2_) (shrI IntKind.u64 l x3_) * (4294967296 : Int)) + shrI IntKind.u64 (shlI IntKind.u64 l x2_) (32 : Int)) - IntKind.wrap IntKind.u64 (IntKind.wrap IntKind.u64 (Int.tdiv (bits BinOp.or IntKind.u64 (shlI IntKind.u64 h x2_) (shrI IntKind.u64 l x3_)) (shrI IntKind.u64 (shlI IntKind.u64 y x2_) (32 : Int))) * shlI IntKind.u64 y x2_)) * (4294967296 : Int)) + bits BinOp.and IntKind.u64 (shlI IntKind.u64 l x2_) (4294967295 : Int)) - IntKind.wrap IntKind.u64 (IntKind.wrap IntKind.u64 (Int.tdiv x1_ (shrI IntKind.u64 (shlI IntKind.u64 y x2_) (32 : Int))) * shlI IntKind.u64 y x2_))) x2_)])))))))))))))))) := by
  subst hx1_; subst hx3_; subst hx2_; kernel_rfl
def c_Div64 : PC P := PC.of (α := Int × Int × Int × Unit) 139 [.val (.int .u64), .val (.int .u64), .val (.int .u64)] (fun x => x) (fun x => x) (fun _ => rfl)
  (fun x => some (0 ≤ x.1 ∧ x.1 < 65536 ∧ 0 ≤ x.2.1 ∧ x.2.1 < 18446744073709551616 ∧ x.2.2.1 = 1000000000))
  (fun x => .tup [.int .u64 ((x.1 * 18446744073709551616 + x.2.1) / 1000000000), .int .u64 ((x.1 * 18446744073709551616 + x.2.1) % 1000000000)]) (by kernel_rfl) (by
    rintro ⟨h, l, y, ⟨⟩⟩ hp
    refine fn_of hm (by kernel_rfl) (by kernel_rfl) (T_Div64 h l y _ rfl _ rfl _ rfl) ⟨K_Div0, K_Div2, trivial⟩ ?_
    try dsimp only at hp
    try dsimp only
    obtain ⟨h0, h1, h2, h3, rfl⟩ : 0 ≤ h ∧ h < 65536 ∧ 0 ≤ l ∧ l < 18446744073709551616 ∧ y = 1000000000 := hp
    have f1 : shlI .u64 h 34 = h * 17179869184 := by rw [shl34]; omega
    have f2 : bits .or .u64 (h * 17179869184) (l / 1073741824) = h * 17179869184 + l / 1073741824 := orI h0 (by omega) (by omega) (by omega)
    have f3 : bits .and .u64 (l * 17179869184 % 18446744073709551616) 4294967295 = 0 := by rw [maskI (by omega) (by omega)]; omega
    rw [Int.tdiv_eq_ediv_of_nonneg h2, Int.tmod_eq_emod_of_nonneg h2]
    simp only [e34, e30, eY, eY0, f1, shl34 l, shr30u, shr34u, shr32u, f2, f3, show (17179869184000000000 : Int) / 4294967296 = 4000000000 by decide]
    have hx : l * 17179869184 % 18446744073709551616 / 4294967296 = 4 * (l % 1073741824) := by omega
    rw [hx]
    obtain ⟨u, hu⟩ : ∃ u, u = h * 17179869184 + l / 1073741824 := ⟨_, rfl⟩
    rw [← hu]
    have g0 : Int.tdiv u 4000000000 = u / 4000000000 := Int.tdiv_eq_ediv_of_nonneg (by omega)
    have g1 : IntKind.wrap .u64 (u / 4000000000) = u / 4000000000 := by rw [U_eq]; omega
    rw [g0, g1]
    obtain ⟨z, hz⟩ : ∃ z, z = u % 4000000000 * 4294967296 + 4 * (l % 1073741824) := ⟨_, rfl⟩
    have g2 : IntKind.wrap .u64 (IntKind.wrap .u64 (IntKind.wrap .u64 (u * 4294967296) + 4 * (l % 1073741824)) - IntKind.wrap .u64 (u / 4000000000 * 17179869184000000000)) = z := by
      simp only [U_eq]; omega
    rw [g2]
    have g3 : Int.tdiv z 4000000000 = z / 4000000000 := Int.tdiv_eq_ediv_of_nonneg (by omega)
    have g4 : IntKind.wrap .u64 (z / 4000000000) = z / 4000000000 := by rw [U_eq]; omega
    rw [g3, g4]
    have g5 : IntKind.wrap .u64 (IntKind.wrap .u64 (u / 4000000000 * 4294967296) + z / 4000000000) = (h * 18446744073709551616 + l) / 1000000000 := by
      simp only [U_eq]; omega
    have g6 : IntKind.wrap .u64 (IntKind.wrap .u64 (IntKind.wrap .u64 (z * 4294967296) + 0) - IntKind.wrap .u64 (z / 4000000000 * 17179869184000000000)) / 17179869184 = (h * 18446744073709551616 + l) % 1000000000 := by
      simp only [U_eq]; omega
    rw [g5, g6]
    refine ⟨fun c => (by cases c), fun _ => ⟨fun c => absurd (of_decide_eq_true c) (by omega), fun _ => ⟨fun c => ⟨by decide, by decide, ?_⟩, fun c => ⟨trivial, by decide, by decide, by decide, by decide, by decide, by decide, by decide, ⟨rfl, by omega, by omega⟩, by decide, ⟨rfl, by omega, by omega⟩, by decide, rfl⟩⟩⟩⟩
    have c : h = 0 := eq_of_beq c
    subst c
    show SV.tup _ = SV.tup _
    rw [U_eq, show l / 1000000000 % 18446744073709551616 = (0 * 18446744073709551616 + l) / 1000000000 by omega, show l % 1000000000 = (0 * 18446744073709551616 + l) % 1000000000 by omega])
theorem T_down (a b : Int) : fnTree (P := P) [] (lpOf []) Try.f127 (encL 0 [.val tI, .val tI] (a, b, ())) =
  Tree.need (b ≠ (0 : Int)) (Tree.need (b ≠ (0 : Int)) (Tree.cond (decide (Int.tmod a b < (0 : Int))) (Tree.leaf (SV.int IntKind.i64 (IntKind.wrap IntKind.i64 (IntKind.wrap IntKind.i64 (Int.tdiv a b) - (1 : Int))))) (Tree.leaf (SV.int IntKind.i64 (IntKind.wrap IntKind.i64 (Int.tdiv a b)))))) := by kernel_rfl
def c_down : PC P := PC.of (α := Int × Int × Unit) 127 [.val tI, .val tI] (fun x => x) (fun x => x) (fun _ => rfl)
  (fun x => some (0 < x.2.1 ∧ -9223372036854775808 < x.1 ∧ x.1 ≤ 9223372036854775807))
  (fun x => .int .i64 (x.1 / x.2.1)) (by kernel_rfl) (by
    rintro ⟨a, b, ⟨⟩⟩ hp
    refine fn_of hm (by kernel_rfl) (by kernel_rfl) (T_down a b) trivial ?_
    try dsimp only at hp
    try dsimp only
    obtain ⟨h0, h1, h2⟩ : 0 < b ∧ -9223372036854775808 < a ∧ a ≤ 9223372036854775807 := hp
    have e := floorW_eq h0 h1 h2
    unfold floorW at e
    refine ⟨by omega, by omega, fun c => ?_, fun c => ?_⟩
    · rw [if_pos (of_decide_eq_true c)] at e
      exact congrArg (SV.int .i64) e
    · rw [if_neg (of_decide_eq_false c)] at e
      exact congrArg (SV.int .i64) e)
theorem T_up (a b : Int) : fnTree (P := P) [c_down.gc] (lpOf []) Try.f128 (encL 0 [.val tI, .val tI] (a, b, ())) =
  Tree.need ((0 : Int) < b ∧ (-9223372036854775808 : Int) < IntKind.wrap IntKind.i64 ((0 : Int) - a) ∧ IntKind.wrap IntKind.i64 ((0 : Int) - a) ≤ (9223372036854775807 : Int)) (Tree.leaf (SV.int IntKind.i64 (IntKind.wrap IntKind.i64 ((0 : Int) - IntKind.wrap IntKind.i64 ((0 : Int) - a) / b)))) := by kernel_rfl
def c_up : PC P := PC.of (α := Int × Int × Unit) 128 [.val tI, .val tI] (fun x => x) (fun x => x) (fun _ => rfl)
  (fun x => some (0 < x.2.1 ∧ -9223372036854775808 < x.1 ∧ x.1 < 9223372036854775807))
  (fun x => .int .i64 (upS x.1 x.2.1)) (by kernel_rfl) (by
    rintro ⟨a, b, ⟨⟩⟩ hp
    refine fn_of hm (by kernel_rfl) (by kernel_rfl) (T_up a b) trivial ?_
    try dsimp only at hp
    try dsimp only
    obtain ⟨h0, h1, h2⟩ : 0 < b ∧ -9223372036854775808 < a ∧ a < 9223372036854775807 := hp
    have h3 := div_rng (x := -a) (M := 9223372036854775807) h0 (by decide) (by omega) (by omega)
    rw [W_id (n := 0 - a) (by omega) (by omega), Int.zero_sub, W_id (n := 0 - -a / b) (by omega) (by omega), Int.zero_sub]
    exact ⟨⟨h0, by omega, by omega⟩, rfl⟩)
theorem T_absP (n : Int) : fnTree (P := P) [] (lpOf []) Try.f131 (encL 0 [.val tI] (n, ())) =
  Tree.leaf (SV.int IntKind.i64 (maxI n (IntKind.wrap IntKind.i64 ((0 : Int) - n)))) := by kernel_rfl
def c_absP : PC P := PC.of (α := Int × Unit) 131 [.val tI] (fun x => x) (fun x => x) (fun _ => rfl)
  (fun x => some (-9223372036854775808 < x.1 ∧ x.1 ≤ 9223372036854775807))
  (fun x => .int .i64 (absI x.1)) (by kernel_rfl) (by
    rintro ⟨n, ⟨⟩⟩ hp
    refine fn_of hm (by kernel_rfl) (by kernel_rfl) (T_absP n) trivial ?_
    try dsimp only at hp
    try dsimp only
    obtain ⟨h0, h1⟩ : -9223372036854775808 < n ∧ n ≤ 9223372036854775807 := hp
    show SV.int _ _ = SV.int _ (absI n)
    unfold absI
    rw [W_id (n := 0 - n) (by omega) (by omega), Int.zero_sub])
theorem T_drag (t m b : Int) : fnTree (P := P) [c_Mul64.gc, c_Div64.gc] (lpOf []) Try.f138 (encL 0 [.val tI, .val tI, .val tI] (t, m, b, ())) =
  Tree.need ((0 : Int) ≤ IntKind.wrap IntKind.u64 t ∧ IntKind.wrap IntKind.u64 t < (18446744073709551616 : Int) ∧ (0 : Int) ≤ IntKind.wrap IntKind.u64 (IntKind.wrap IntKind.i64 (m * b)) ∧ IntKind.wrap IntKind.u64 (IntKind.wrap IntKind.i64 (m * b)) < (18446744073709551616 : Int)) (Tree.need ((0 : Int) ≤ IntKind.wrap IntKind.u64 t * IntKind.wrap IntKind.u64 (IntKind.wrap IntKind.i64 (m * b)) / (18446744073709551616 : Int) ∧ IntKind.wrap IntKind.u64 t * IntKind.wrap IntKind.u64 (IntKind.wrap IntKind.i64 (m * b)) / (18446744073709551616 : Int) < (65536 : Int) ∧ (0 : Int) ≤ IntKind.wrap IntKind.u64 t * IntKind.wrap IntKind.u64 (IntKind.wrap IntKind.i64 (m * b)) % (18446744073709551616 : Int) ∧ IntKind.wrap IntKind.u64 t * IntKind.wrap IntKind.u64 (IntKind.wrap IntKind.i64 (m * b)) % (18446744073709551616 : Int) < (18446744073709551616 : Int) ∧ (1000000000 : Int) = (1000000000 : Int)) (Tree.leaf (SV.tup [SV.int IntKind.i64 (IntKind.wrap IntKind.i64 ((IntKind.wrap IntKind.u64 t * IntKind.wrap IntKind.u64 (IntKind.wrap IntKind.i64 (m * b)) / (18446744073709551616 : Int) * (18446744073709551616 : Int) + IntKind.wrap IntKind.u64 t * IntKind.wrap IntKind.u64 (IntKind.wrap IntKind.i64 (m * b)) % (18446744073709551616 : Int)) / (1000000000 : Int))), SV.bool (decide ((IntKind.wrap IntKind.u64 t * IntKind.wrap IntKind.u64 (IntKind.wrap IntKind.i64 (m * b)) / (18446744073709551616 : Int) * (18446744073709551616 : Int) + IntKind.wrap IntKind.u64 t * IntKind.wrap IntKind.u64 (IntKind.wrap IntKind.i64 (m * b)) % (18446744073709551616 : Int)) % (1000000000 : Int) > (0 : Int)))]))) := by kernel_rfl
def c_drag : PC P := PC.of (α := Int × Int × Int × Unit) 138 [.val tI, .val tI, .val tI] (fun x => x) (fun x => x) (fun _ => rfl)
  (fun x => some (0 ≤ x.1 ∧ x.1 ≤ 17592186044416 ∧ 0 ≤ x.2.1 ∧ x.2.1 ≤ 600 ∧ 0 ≤ x.2.2.1 ∧ x.2.2.1 ≤ 2000001))
  (fun x => .tup [.int .i64 (lowS9 x.1 x.2.1 x.2.2.1), .bool (decide (x.1 * (x.2.1 * x.2.2.1) % 1000000000 > 0))]) (by kernel_rfl) (by
    rintro ⟨t, m, b, ⟨⟩⟩ hp
    refine fn_of hm (by kernel_rfl) (by kernel_rfl) (T_drag t m b) trivial ?_
    try dsimp only at hp
    try dsimp only
    obtain ⟨h0, h1, h2, h3, h4, h5⟩ : 0 ≤ t ∧ t ≤ 17592186044416 ∧ 0 ≤ m ∧ m ≤ 600 ∧ 0 ≤ b ∧ b ≤ 2000001 := hp
    have k := mul_rng h2 h3 h4 h5
    have x := mul_rng h0 h1 k.1 k.2
    have e1 : IntKind.wrap .u64 t = t := by rw [U_eq]; omega
    have e2 : IntKind.wrap .u64 (m * b) = m * b := by rw [U_eq]; omega
    rw [W_id (n := m * b) (by omega) (by omega), e1, e2]
    unfold lowS9
    generalize t * (m * b) = z at *
    have e3 : z / 18446744073709551616 * 18446744073709551616 + z % 18446744073709551616 = z := by omega
    rw [e3, W_id (n := z / 1000000000) (by omega) (by omega)]
    exact ⟨⟨h0, by omega, k.1, by omega⟩, ⟨by omega, by omega, by omega, by omega, rfl⟩, rfl⟩)
theorem T_lower (t m b : Int) : fnTree (P := P) [c_drag.gc] (lpOf []) Try.f130 (encL 0 [.val tI, .val tI, .val tI] (t, m, b, ())) =
  Tree.need ((0 : Int) ≤ t ∧ t ≤ (17592186044416 : Int) ∧ (0 : Int) ≤ m ∧ m ≤ (600 : Int) ∧ (0 : Int) ≤ b ∧ b ≤ (2000001 : Int)) (Tree.leaf (SV.int IntKind.i64 (lowS9 t m b))) := by kernel_rfl
def c_lower : PC P := PC.of (α := Int × Int × Int × Unit) 130 [.val tI, .val tI, .val tI] (fun x => x) (fun x => x) (fun _ => rfl)
  (fun x => some (0 ≤ x.1 ∧ x.1 ≤ 17592186044416 ∧ 0 ≤ x.2.1 ∧ x.2.1 ≤ 600 ∧ 0 ≤ x.2.2.1 ∧ x.2.2.1 ≤ 2000001))
  (fun x => .int .i64 (lowS9 x.1 x.2.1 x.2.2.1)) (by kernel_rfl) (by
    rintro ⟨t, m, b, ⟨⟩⟩ hp
    refine fn_of hm (by kernel_rfl) (by kernel_rfl) (T_lower t m b) trivial ?_
    try dsimp only at hp
    try dsimp only
    exact ⟨hp, rfl⟩)
theorem T_upper (t m b : Int) : fnTree (P := P) [c_drag.gc] (lpOf []) Try.f132 (encL 0 [.val tI, .val tI, .val tI] (t, m, b, ())) =
  Tree.need ((0 : Int) ≤ t ∧ t ≤ (17592186044416 : Int) ∧ (0 : Int) ≤ m ∧ m ≤ (600 : Int) ∧ (0 : Int) ≤ b ∧ b ≤ (2000001 : Int)) (Tree.cond (decide (t * (m * b) % (1000000000 : Int) > (0 : Int))) (Tree.leaf (SV.int IntKind.i64 (IntKind.wrap IntKind.i64 (lowS9 t m b + (1 : Int))))) (Tree.leaf (SV.int IntKind.i64 (lowS9 t m b)))) := by kernel_rfl
def c_upper : PC P := PC.of (α := Int × Int × Int × Unit) 132 [.val tI, .val tI, .val tI] (fun x => x) (fun x => x) (fun _ => rfl)
  (fun x => some (0 ≤ x.1 ∧ x.1 ≤ 17592186044416 ∧ 0 ≤ x.2.1 ∧ x.2.1 ≤ 600 ∧ 0 ≤ x.2.2.1 ∧ x.2.2.1 ≤ 2000001))
  (fun x => .int .i64 (upS9 x.1 x.2.1 x.2.2.1)) (by kernel_rfl) (by
    rintro ⟨t, m, b, ⟨⟩⟩ hp
    refine fn_of hm (by kernel_rfl) (by kernel_rfl) (T_upper t m b) trivial ?_
    try dsimp only at hp
    try dsimp only
    obtain ⟨h0, h1, h2, h3, h4, h5⟩ : 0 ≤ t ∧ t ≤ 17592186044416 ∧ 0 ≤ m ∧ m ≤ 600 ∧ 0 ≤ b ∧ b ≤ 2000001 := hp
    have k := mul_rng h2 h3 h4 h5
    have x := mul_rng h0 h1 k.1 k.2
    show Tree.holds (fun s => s = SV.int .i64 (upS9 t m b)) _
    rw [upS9_eq, W_id (n := lowS9 t m b + 1) (by unfold lowS9; omega) (by unfold lowS9; omega)]
    refine ⟨⟨h0, h1, h2, h3, h4, h5⟩, fun c => ?_, fun c => ?_⟩
    · rw [if_pos (of_decide_eq_true c)]; exact rfl
    · rw [if_neg (of_decide_eq_false c)]; exact rfl)
def cmpS (x y : Int) : Int := if x = y then 0 else if x < y then -1 else 1
def L_Bend1 : Lay := { slots := [(0, .val tI), (1, .ptr 1 0)], boxes := [(1, [.val tI, .val tI])] }
theorem T_Bend1 (r a d : Int) : mTree (P := P) [c_Mul64.gc] (lpOf []) Try.f63 L_Bend1 true (r, (), a, d, ()) =
  Tree.need ((0 : Int) ≤ IntKind.wrap IntKind.u64 (IntKind.wrap IntKind.i64 (r * r)) ∧ IntKind.wrap IntKind.u64 (IntKind.wrap IntKind.i64 (r * r)) < (18446744073709551616 : Int) ∧ (0 : Int) ≤ IntKind.wrap IntKind.u64 d ∧ IntKind.wrap IntKind.u64 d < (18446744073709551616 : Int)) (Tree.need ((0 : Int) ≤ IntKind.wrap IntKind.u64 (IntKind.wrap IntKind.i64 ((2 : Int) * a)) ∧ IntKind.wrap IntKind.u64 (IntKind.wrap IntKind.i64 ((2 : Int) * a)) < (18446744073709551616 : Int) ∧ (0 : Int) ≤ (1000000000000 : Int) ∧ (1000000000000 : Int) < (18446744073709551616 : Int)) (Tree.cond (IntKind.wrap IntKind.u64 (IntKind.wrap IntKind.i64 (r * r)) * IntKind.wrap IntKind.u64 d / (18446744073709551616 : Int) == IntKind.wrap IntKind.u64 (IntKind.wrap IntKind.i64 ((2 : Int) * a)) * (1000000000000 : Int) / (18446744073709551616 : Int)) (Tree.cond (IntKind.wrap IntKind.u64 (IntKind.wrap IntKind.i64 (r * r)) * IntKind.wrap IntKind.u64 d % (18446744073709551616 : Int) == IntKind.wrap IntKind.u64 (IntKind.wrap IntKind.i64 ((2 : Int) * a)) * (1000000000000 : Int) % (18446744073709551616 : Int)) (Tree.leaf { res := SV.int IntKind.i64 (0 : Int), boxes := [[SV.int IntKind.i64 a, SV.int IntKind.i64 d]] }) (Tree.cond (decide (IntKind.wrap IntKind.u64 (IntKind.wrap IntKind.i64 (r * r)) * IntKind.wrap IntKind.u64 d / (18446744073709551616 : Int) < IntKind.wrap IntKind.u64 (IntKind.wrap IntKind.i64 ((2 : Int) * a)) * (1000000000000 : Int) / (18446744073709551616 : Int))) (Tree.leaf { res := SV.int IntKind.i64 (-1 : Int), boxes := [[SV.int IntKind.i64 a, SV.int IntKind.i64 d]] }) (Tree.cond (IntKind.wrap IntKind.u64 (IntKind.wrap IntKind.i64 (r * r)) * IntKind.wrap IntKind.u64 d / (18446744073709551616 : Int) == IntKind.wrap IntKind.u64 (IntKind.wrap IntKind.i64 ((2 : Int) * a)) * (1000000000000 : Int) / (18446744073709551616 : Int)) (Tree.cond (decide (IntKind.wrap IntKind.u64 (IntKind.wrap IntKind.i64 (r * r)) * IntKind.wrap IntKind.u64 d % (18446744073709551616 : Int) < IntKind.wrap IntKind.u64 (IntKind.wrap IntKind.i64 ((2 : Int) * a)) * (1000000000000 : Int) % (18446744073709551616 : Int))) (Tree.leaf { res := SV.int IntKind.i64 (-1 : Int), boxes := [[SV.int IntKind.i64 a, SV.int IntKind.i64 d]] }) (Tree.leaf { res := SV.int IntKind.i64 (1 : Int), boxes := [[SV.int IntKind.i64 a, SV.int IntKind.i64 d]] })) (Tree.leaf { res := SV.int IntKind.i64 (1 : Int), boxes := [[SV.int IntKind.i64 a, SV.int IntKind.i64 d]] })))) (Tree.cond (decide (IntKind.wrap IntKind.u64 (IntKind.wrap IntKind.i64 (r * r)) * IntKind.wrap IntKind.u64 d / (18446744073709551616 : Int) < IntKind.wrap IntKind.u64 (IntKind.wrap IntKind.i64 ((2 : Int) * a)) * (1000000000000 : Int) / (18446744073709551616 : Int))) (Tree.leaf { res := SV.int IntKind.i64 (-1 : Int), boxes := [[SV.int IntKind.i64 a, SV.int IntKind.i64 d]] }) (Tree.cond (IntKind.wrap IntKind.u64 (IntKind.wrap IntKind.i64 (r * r)) * IntKind.wrap IntKind.u64 d / (18446744073709551616 : Int) == IntKind.wrap IntKind.u64 (IntKind.wrap IntKind.i64 ((2 : Int) * a)) * (1000000000000 : Int) / (18446744073709551616 : Int)) (Tree.cond (decide (IntKind.wrap IntKind.u64 (IntKind.wrap IntKind.i64 (r * r)) * IntKind.wrap IntKind.u64 d % (18446744073709551616 : Int) < IntKind.wrap IntKind.u64 (IntKind.wrap IntKind.i64 ((2 : Int) * a)) * (1000000000000 : Int) % (18446744073709551616 : Int))) (Tree.leaf { res := SV.int IntKind.i64 (-1 : Int), boxes := [[SV.int IntKind.i64 a, SV.int IntKind.i64 d]] }) (Tree.leaf { res := SV.int IntKind.i64 (1 : Int), boxes := [[SV.int IntKind.i64 a, SV.int IntKind.i64 d]] })) (Tree.leaf { res := SV.int IntKind.i64 (1 : Int), boxes := [[SV.int IntKind.i64 a, SV.int IntKind.i64 d]] }))))) := by kernel_rfl
def c_Bend1 : MC P := MC.of (α := Int × Unit × Int × Int × Unit) 63 L_Bend1 (fun x => x) (fun x => x) (fun _ => rfl)
  (fun x => some (0 ≤ x.1 ∧ x.1 < 4194304 ∧ 0 ≤ x.2.2.1 ∧ x.2.2.1 ≤ 34359738368 ∧ 0 < x.2.2.2.1 ∧ x.2.2.2.1 ≤ 34359738368))
  (fun x => ⟨.int .i64 (cmpS (x.1 * x.1 * x.2.2.2.1) (2 * x.2.2.1 * 1000000000000)), [[.int .i64 x.2.2.1, .int .i64 x.2.2.2.1]], []⟩) (by kernel_rfl) (by kernel_rfl) (by kernel_rfl) (by
    rintro ⟨r, ⟨⟩, a, d, ⟨⟩⟩ hp
    refine m_of hm (own := true) (by kernel_rfl) (by kernel_rfl) (by kernel_rfl) (T_Bend1 r a d) trivial ?_
    try dsimp only at hp
    try dsimp only
    obtain ⟨h0, h1, h2, h3, h4, h5⟩ : 0 ≤ r ∧ r < 4194304 ∧ 0 ≤ a ∧ a ≤ 34359738368 ∧ 0 < d ∧ d ≤ 34359738368 := hp
    have k := mul_rng (a := r) (b := r) (A := 4194304) (B := 4194304) h0 (by omega) h0 (by omega)
    have x := mul_rng k.1 k.2 (show 0 ≤ d by omega) h5
    have e1 : IntKind.wrap .u64 (r * r) = r * r := by rw [U_eq]; omega
    have e2 : IntKind.wrap .u64 d = d := by rw [U_eq]; omega
    have e3 : IntKind.wrap .u64 (2 * a) = 2 * a := by rw [U_eq]; omega
    rw [W_id (n := r * r) (by omega) (by omega), W_id (n := 2 * a) (by omega) (by omega), e1, e2, e3]
    generalize r * r * d = X at *
    generalize hY : 2 * a * 1000000000000 = Y at *
    have fin : ∀ v, cmpS X Y = v → (⟨.int .i64 v, [[.int .i64 a, .int .i64 d]], []⟩ : MOut) = ⟨.int .i64 (cmpS X Y), [[.int .i64 a, .int .i64 d]], []⟩ := fun v h => by rw [h]
    refine ⟨⟨k.1, by omega, by omega, by omega⟩, ⟨⟨by omega, by omega, by omega, by omega⟩, ⟨fun c1 => ⟨fun c2 => ?_, fun c2 => ⟨fun c3 => ?_, fun c3 => ⟨fun c4 => ⟨fun c5 => ?_, fun c5 => ?_⟩, fun c4 => ?_⟩⟩⟩, fun c1 => ⟨fun c6 => ?_, fun c6 => ⟨fun c7 => ⟨fun c8 => ?_, fun c8 => ?_⟩, fun c7 => ?_⟩⟩⟩⟩⟩
    all_goals simp only [beq_iff_eq, beq_eq_false_iff_ne, decide_eq_true_eq, decide_eq_false_iff_not, ne_eq] at *
    all_goals refine fin _ ?_
    all_goals unfold cmpS
    all_goals split
    all_goals first | omega | (split <;> omega))
theorem lowS_rng {n d : Int} (h0 : 0 ≤ n) (hd : 0 < d) : 0 ≤ (lowS n d).1 ∧ (lowS n d).1 ≤ n ∧ 0 < (lowS n d).2 ∧ (lowS n d).2 ≤ d ∧ n = gcdI n d * (lowS n d).1 ∧ d = gcdI n d * (lowS n d).2 ∧ 0 < gcdI n d := by
  have hg := gcdI_pos (a := n) hd
  have d1 : gcdI n d ∣ n := by
    unfold gcdI
    have : ((Nat.gcd n.toNat d.toNat : Nat) : Int) ∣ ((n.toNat : Nat) : Int) := Int.natCast_dvd_natCast.2 (Nat.gcd_dvd_left _ _)
    rwa [Int.toNat_of_nonneg h0] at this
  have d2 : gcdI n d ∣ d := by
    unfold gcdI
    have : ((Nat.gcd n.toNat d.toNat : Nat) : Int) ∣ ((d.toNat : Nat) : Int) := Int.natCast_dvd_natCast.2 (Nat.gcd_dvd_right _ _)
    rwa [Int.toNat_of_nonneg (by omega)] at this
  unfold lowS
  have e1 := Int.mul_ediv_cancel' d1
  have e2 := Int.mul_ediv_cancel' d2
  refine ⟨Int.ediv_nonneg h0 (by omega), Int.ediv_le_self _ h0, ?_, Int.ediv_le_self _ (by omega), e1.symm, e2.symm, hg⟩
  dsimp only
  rcases Int.lt_or_le 0 (d / gcdI n d) with h | h
  · exact h
  · have := Int.mul_le_mul_of_nonneg_left h (show 0 ≤ gcdI n d by omega)
    omega
theorem lowS_le {n d k : Int} (h0 : 0 ≤ n) (hd : 0 < d) (h : n ≤ k * d) : (lowS n d).1 ≤ k * (lowS n d).2 := by
  obtain ⟨_, _, _, _, e1, e2, hg⟩ := lowS_rng h0 hd
  generalize (lowS n d).1 = x at *
  generalize (lowS n d).2 = y at *
  generalize gcdI n d = g at *
  have : g * x ≤ g * (k * y) := by
    have : k * d = g * (k * y) := by rw [e2]; grind
    omega
  exact Int.le_of_mul_le_mul_left this hg
theorem lowS_lt {n d : Int} (h0 : 0 ≤ n) (hd : 0 < d) (h : n < d) : (lowS n d).1 < (lowS n d).2 := by
  obtain ⟨_, _, _, _, e1, e2, hg⟩ := lowS_rng h0 hd
  generalize (lowS n d).1 = x at *
  generalize (lowS n d).2 = y at *
  generalize gcdI n d = g at *
  exact Int.lt_of_mul_lt_mul_left (show g * x < g * y by omega) (by omega)
theorem TurnS_ok {v w : V} (h : (TurnS v w).2 = 0) : 0 ≤ (TurnS v w).1.1 ∧ (TurnS v w).1.1 ≤ 34359738368 ∧ 0 < (TurnS v w).1.2 ∧ (TurnS v w).1.2 ≤ 34359738368 ∧ (TurnS v w).1.1 ≤ 2 * (TurnS v w).1.2 ∧ (0 < vdot v w → (TurnS v w).1.1 < (TurnS v w).1.2) := by
  unfold TurnS at *
  split at h
  · rename_i hh
    rw [if_pos hh]
    obtain ⟨h2, h3, h4, h5, h6⟩ := turn_pre hh.1 hh.2
    unfold turnS
    dsimp only
    obtain ⟨a1, a2, a3, a4, _⟩ := lowS_rng h5 h3
    have hs := schwarz (v := v) (w := w) (l := (wholeS v).1) (m := (wholeS w).1) (wholeS_rng v).1 (wholeS_rng w).1 (wholeS_true (legS_true hh.1).1).2.2.1 (wholeS_true (legS_true hh.2).1).2.2.1
    refine ⟨a1, by omega, a3, by omega, lowS_le h5 h3 (by omega), fun hv => lowS_lt h5 h3 (by omega)⟩
  · cases h
def L_BendL : Lay := { slots := [(4, .ptr 5044 0), (7, .clo 63 [(6044, 0)]), (8, .val tI), (9, .val tI)], boxes := [(5044, [.val tI, .val tI]), (6044, [.val tI, .val tI])] }
def L_BendL_0 : Lay := { slots := [(4, .ptr 5044 0), (7, .clo 63 [(6044, 0)]), (8, .val tI)], boxes := [(5044, [.val tI, .val tI]), (6044, [.val tI, .val tI])] }
def X_BendL : Exit → St → Option Lay
  | .exit 0, _ => some L_BendL_0
  | _, _ => none
abbrev C_BendL : Code := loopC (bodyOf Try.f16) 0
theorem B_BendL (r b b4_0 b4_1 a d : Int) : loopBodyA (P := P) [c_Bend1.gc] (lpOf []) [] 44 noU (inner C_BendL) L_BendL X_BendL (α := Unit × Unit × Int × Int × Int × Int × Int × Int × Unit) (fun x => x) (fun x => x) ((), (), r, b, b4_0, b4_1, a, d, ()) =
  Tree.cond (decide (b > (0 : Int))) (Tree.need ((0 : Int) ≤ IntKind.wrap IntKind.i64 (r + b) ∧ IntKind.wrap IntKind.i64 (r + b) < (4194304 : Int) ∧ (0 : Int) ≤ a ∧ a ≤ (34359738368 : Int) ∧ (0 : Int) < d ∧ d ≤ (34359738368 : Int)) (Tree.cond (decide (cmpS (IntKind.wrap IntKind.i64 (r + b) * IntKind.wrap IntKind.i64 (r + b) * d) ((2 : Int) * a * (1000000000000 : Int)) ≤ (0 : Int))) (Tree.need ((0 : Int) ≤ (1 : Int)) (Tree.leaf (Sum.inl (PUnit.unit, PUnit.unit, IntKind.wrap IntKind.i64 (r + b), shrI IntKind.i64 b (1 : Int), b4_0, b4_1, a, d, PUnit.unit)))) (Tree.need ((0 : Int) ≤ (1 : Int)) (Tree.leaf (Sum.inl (PUnit.unit, PUnit.unit, r, shrI IntKind.i64 b (1 : Int), b4_0, b4_1, a, d, PUnit.unit)))))) (Tree.leaf (Sum.inr (Exit.exit (0 : Nat), Lay.st L_BendL_0 noU (PUnit.unit, PUnit.unit, r, b4_0, b4_1, a, d, PUnit.unit)))) := by kernel_rfl
def inv_BendL : Unit × Unit × Int × Int × Int × Int × Int × Int × Unit → Prop := fun ((), (), r, b, b4_0, b4_1, a, d, ()) => 0 ≤ a ∧ a ≤ 34359738368 ∧ 0 < d ∧ d ≤ 34359738368 ∧ 0 ≤ r ∧ r + 2 * b ≤ 4194304 ∧ ∃ k : Nat, b = 2 ^ k / 2 ∧ bndBits k a d r = bndI a d
def O_BendL : Unit × Unit × Int × Int × Int × Int × Int × Int × Unit → Tree (Exit × St) := fun ((), (), r, b, b4_0, b4_1, a, d, ()) => (.leaf (.exit 0, L_BendL_0.st noU ((), (), (bndI a d), b4_0, b4_1, a, d, ())))
def R_BendL : LRun := runOf 44 L_BendL (fun x => x) (inv_BendL) (O_BendL)
theorem K_BendL : LoopOk P [] 44 none noU C_BendL (R_BendL) := by
  refine loop_of hm (cx := [c_Bend1.gc]) [] (xl := X_BendL) (α := Unit × Unit × Int × Int × Int × Int × Int × Int × Unit) (fun x => x) (fun ((), (), r, b, b4_0, b4_1, a, d, ()) => b.toNat) (fun _ => rfl) (by kernel_rfl) (by kernel_rfl) ?_ (by kernel_rfl) trivial ?_
  · intro e S L' h
    unfold X_BendL at h
    split at h <;> first | (cases h; done) | (cases h; kernel_rfl) | (rcases bif_some h with h | h <;> cases h <;> kernel_rfl)
  · rintro ⟨⟨⟩, ⟨⟩, r, b, b4_0, b4_1, a, d, ⟨⟩⟩ hinv Q hQ
    refine hold_of_eq (B_BendL r b b4_0 b4_1 a d) ?_
    obtain ⟨h0, h1, h2, h3, h4, h5, k, hb, hk⟩ := hinv
    have hQ' : Q (.exit 0, L_BendL_0.st noU ((), (), bndI a d, b4_0, b4_1, a, d, ())) := hQ
    cases k with
    | zero =>
      have hb0 : b = 0 := hb
      subst hb0
      have e : r = bndI a d := hk
      rw [← e] at hQ'
      exact ⟨fun h => by simp at h, fun _ => hQ'⟩
    | succ k =>
      have hp' : (0 : Int) < 2 ^ k := Int.pow_pos (by decide)
      have hb' : b = 2 ^ k := by rw [hb, shl_half]
      rw [W_id (n := r + b) (by omega) (by omega), shr1]
      unfold bndBits at hk
      clear hb
      subst hb'
      refine ⟨fun _ => ⟨⟨by omega, by omega, h0, h1, h2, h3⟩, ⟨fun h => ⟨by decide, ?_⟩, fun h => ⟨by decide, ?_⟩⟩⟩, fun h => by simp at h; omega⟩
      · have h := of_decide_eq_true h
        have h' : (r + 2 ^ k) * (r + 2 ^ k) * d ≤ 2 * a * 1000000000000 := by
          unfold cmpS at h
          split at h
          · omega
          · split at h <;> omega
        rw [if_pos h'] at hk
        exact ⟨⟨⟨h0, h1, h2, h3, by omega, by omega, k, rfl, hk⟩, by show Int.toNat (2 ^ k / 2) < Int.toNat (2 ^ k); omega⟩, hQ'⟩
      · have h := of_decide_eq_false h
        have h' : ¬ (r + 2 ^ k) * (r + 2 ^ k) * d ≤ 2 * a * 1000000000000 := by
          unfold cmpS at h
          split at h
          · omega
          · split at h <;> omega
        rw [if_neg h'] at hk
        exact ⟨⟨⟨h0, h1, h2, h3, h4, by omega, k, rfl, hk⟩, by show Int.toNat (2 ^ k / 2) < Int.toNat (2 ^ k); omega⟩, hQ'⟩
theorem T_Bend (v_0 v_1 v_2 w_0 w_1 w_2 : Int) : fnTree (P := P) [c_Turn.gc, c_Bend1.gc] (lpOf [(0, R_BendL)]) Try.f16 (encL 0 [.agg tV, .agg tV] ((v_0, (v_1, v_2)), (w_0, (w_1, w_2)), ())) =
  Tree.cond ((TurnS (v_0, v_1, v_2) (w_0, w_1, w_2)).snd != (0 : Int)) (Tree.leaf (SV.agg [SV.int IntKind.i64 (0 : Int), SV.int IntKind.i64 (0 : Int)])) (Tree.need (inv_BendL ((), (), (0 : Int), (2097152 : Int), (0 : Int), (0 : Int), (TurnS (v_0, v_1, v_2) (w_0, w_1, w_2)).fst.fst, (TurnS (v_0, v_1, v_2) (w_0, w_1, w_2)).fst.snd, ())) (Tree.need ((0 : Int) ≤ bndI (TurnS (v_0, v_1, v_2) (w_0, w_1, w_2)).fst.fst (TurnS (v_0, v_1, v_2) (w_0, w_1, w_2)).fst.snd ∧ bndI (TurnS (v_0, v_1, v_2) (w_0, w_1, w_2)).fst.fst (TurnS (v_0, v_1, v_2) (w_0, w_1, w_2)).fst.snd < (4194304 : Int) ∧ (0 : Int) ≤ (TurnS (v_0, v_1, v_2) (w_0, w_1, w_2)).fst.fst ∧ (TurnS (v_0, v_1, v_2) (w_0, w_1, w_2)).fst.fst ≤ (34359738368 : Int) ∧ (0 : Int) < (TurnS (v_0, v_1, v_2) (w_0, w_1, w_2)).fst.snd ∧ (TurnS (v_0, v_1, v_2) (w_0, w_1, w_2)).fst.snd ≤ (34359738368 : Int)) (Tree.cond (cmpS (bndI (TurnS (v_0, v_1, v_2) (w_0, w_1, w_2)).fst.fst (TurnS (v_0, v_1, v_2) (w_0, w_1, w_2)).fst.snd * bndI (TurnS (v_0, v_1, v_2) (w_0, w_1, w_2)).fst.fst (TurnS (v_0, v_1, v_2) (w_0, w_1, w_2)).fst.snd * (TurnS (v_0, v_1, v_2) (w_0, w_1, w_2)).fst.snd) ((2 : Int) * (TurnS (v_0, v_1, v_2) (w_0, w_1, w_2)).fst.fst * (1000000000000 : Int)) == (0 : Int)) (Tree.leaf (SV.agg [SV.int IntKind.i64 (bndI (TurnS (v_0, v_1, v_2) (w_0, w_1, w_2)).fst.fst (TurnS (v_0, v_1, v_2) (w_0, w_1, w_2)).fst.snd), SV.int IntKind.i64 (bndI (TurnS (v_0, v_1, v_2) (w_0, w_1, w_2)).fst.fst (TurnS (v_0, v_1, v_2) (w_0, w_1, w_2)).fst.snd)])) (Tree.leaf (SV.agg [SV.int IntKind.i64 (bndI (TurnS (v_0, v_1, v_2) (w_0, w_1, w_2)).fst.fst (TurnS (v_0, v_1, v_2) (w_0, w_1, w_2)).fst.snd), SV.int IntKind.i64 (IntKind.wrap IntKind.i64 (bndI (TurnS (v_0, v_1, v_2) (w_0, w_1, w_2)).fst.fst (TurnS (v_0, v_1, v_2) (w_0, w_1, w_2)).fst.snd + (1 : Int)))]))))) := by kernel_rfl
def c_Bend : PC P := PC.of (α := V × V × Unit) 16 [.agg tV, .agg tV] (fun x => x) (fun x => x) (fun _ => rfl)
  (fun _ => none)
  (fun x => .agg [.int .i64 (bendV x.1 x.2.1).1, .int .i64 (bendV x.1 x.2.1).2]) (by kernel_rfl) (by
    rintro ⟨⟨v_0, ⟨v_1, v_2⟩⟩, ⟨w_0, ⟨w_1, w_2⟩⟩, ⟨⟩⟩ hp
    refine fn_of hm (by kernel_rfl) (by kernel_rfl) (T_Bend v_0 v_1 v_2 w_0 w_1 w_2) ⟨K_BendL, trivial⟩ ?_
    try dsimp only at hp
    try dsimp only
    show Tree.holds (fun s => s = SV.agg [.int .i64 (bendV (v_0, v_1, v_2) (w_0, w_1, w_2)).1, .int .i64 (bendV (v_0, v_1, v_2) (w_0, w_1, w_2)).2]) _
    unfold bendV
    refine ⟨fun c1 => ?_, fun c1 => ?_⟩
    · rw [if_neg (by simpa using c1)]; exact rfl
    · have c1 : (TurnS (v_0, v_1, v_2) (w_0, w_1, w_2)).2 = 0 := by simpa using c1
      obtain ⟨t1, t2, t3, t4, t5, _⟩ := TurnS_ok c1
      rw [if_pos c1]
      generalize (TurnS (v_0, v_1, v_2) (w_0, w_1, w_2)).1.1 = a at *
      generalize (TurnS (v_0, v_1, v_2) (w_0, w_1, w_2)).1.2 = d at *
      obtain ⟨b1, b2, b3⟩ := bndI_ok t1 t5 t3
      have b4 := bndI_le t1 t5 t3
      rw [W_id (n := bndI a d + 1) (by omega) (by omega)]
      unfold bendQ
      refine ⟨⟨t1, t2, t3, t4, by omega, by omega, 22, by decide, rfl⟩, ⟨⟨b1, by omega, t1, t2, t3, t4⟩, ⟨fun c2 => ?_, fun c2 => ?_⟩⟩⟩
      · have c2 := eq_of_beq c2
        have : bndI a d * bndI a d * d = 2 * a * 1000000000000 := by
          unfold cmpS at c2
          split at c2
          · assumption
          · split at c2 <;> omega
        rw [if_pos this]; exact rfl
      · have c2 : cmpS (bndI a d * bndI a d * d) (2 * a * 1000000000000) ≠ 0 := by simpa using c2
        have : ¬ bndI a d * bndI a d * d = 2 * a * 1000000000000 := by
          intro h
          unfold cmpS at c2
          rw [if_pos h] at c2
          exact c2 rfl
        rw [if_neg this]; exact rfl)
end
end Go.MP
