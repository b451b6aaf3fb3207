/- RigOrder: fewer losses, a wider goal and fewer bans take no more ticks. -/
import Derived.Test.YtmolckndbmjgfaaMrZ
namespace Go.MR
open Go Go.Sx Go.Proofs
set_option linter.unusedVariables false
set_option linter.unusedSimpArgs false
noncomputable section

/-! ### More losses -/
theorem next_more : ∀ {s m : List Int} {l : Nat} {y : List Int × Nat}, y ∈ nexts s m l → (y.1, y.2 + 1) ∈ nexts s m (l + 1)
  | [], m, l, y, h => by
    have e : ∀ k, nexts [] m k = [([], k)] := fun k => by cases m <;> cases k <;> rfl
    rw [e, List.mem_singleton] at h ⊢
    subst h; rfl
  | p :: s, [], l, y, h => by
    have e : ∀ k, nexts (p :: s) [] k = [([], k)] := fun k => by cases k <;> rfl
    rw [e, List.mem_singleton] at h ⊢
    subst h; rfl
  | p :: s, x :: m, l, y, h => by
    rw [nexts_cons, List.mem_append, List.mem_map] at h ⊢
    rcases h with ⟨z, hz, rfl⟩ | h
    · exact .inl ⟨_, next_more hz, rfl⟩
    · refine .inr ?_
      split at h
      · cases h
      · rename_i hx
        rw [if_neg hx]
        cases l with
        | zero => cases h
        | succ l =>
          dsimp only at h ⊢
          obtain ⟨z, hz, rfl⟩ := List.mem_map.1 h
          exact List.mem_map.2 ⟨_, next_more hz, rfl⟩
theorem reD_less {ps : List Int} {bs : List Ban} {g : List (Int × Int)} : ∀ {d l : Nat} {s : List Int}, reD ps bs g d (l + 1) s = true → reD ps bs g d l s = true := by
  intro d
  induction d with
  | zero => exact fun h => h
  | succ d ih =>
    intro l s h
    rw [reD, Bool.or_eq_true, Bool.and_eq_true, List.any_eq_true] at h ⊢
    rcases h with h | ⟨h1, m, hm, h2⟩
    · exact .inl (ih h)
    · rw [Bool.and_eq_true, List.all_eq_true] at h2
      exact .inr ⟨h1, m, hm, by
        rw [Bool.and_eq_true, List.all_eq_true]
        exact ⟨h2.1, fun y hy => ih (h2.2 _ (next_more hy))⟩⟩

/-! ### A wider goal -/
theorem reD_wide {ps : List Int} {bs : List Ban} {g g' : List (Int × Int)} (hp : ps.any badP = false) (hg : ∀ s, VS ps s → inG s g = true → inG s g' = true) : ∀ {d l : Nat} {s : List Int}, VS ps s → reD ps bs g d l s = true → reD ps bs g' d l s = true := by
  intro d
  induction d with
  | zero =>
    intro l s hs h
    rw [reD, Bool.and_eq_true] at h ⊢
    exact ⟨h.1, hg s hs h.2⟩
  | succ d ih =>
    intro l s hs h
    rw [reD, Bool.or_eq_true, Bool.and_eq_true, List.any_eq_true] at h ⊢
    rcases h with h | ⟨h1, m, hm, h2⟩
    · exact .inl (ih hs h)
    · rw [Bool.and_eq_true, List.all_eq_true] at h2
      refine .inr ⟨h1, m, hm, ?_⟩
      rw [Bool.and_eq_true, List.all_eq_true]
      refine ⟨h2.1, fun y hy => ih ?_ (h2.2 _ hy)⟩
      have ho := h2.1
      unfold okM at ho
      rw [Bool.and_eq_true] at ho
      have hl := allM_len hm
      exact (nexts_vs hp hs.sl (hl.trans hs.sl) hs.si (allM_is hm) (waysS_ok ho.1) hy).1
theorem inG_wide {p : Int} {ps s : List Int} {g : List (Int × Int)} (hs : VS (p :: ps) s) (h : inG s g = true) : inG s (g.set 0 (0, p - 1)) = true := by
  cases s with
  | nil => rfl
  | cons q s =>
    cases g with
    | nil => exact h
    | cons x g =>
      rw [List.set_cons_zero, inG, Bool.and_eq_true]
      rw [inG, Bool.and_eq_true] at h
      refine ⟨?_, h.2⟩
      have := (inR_iff hs.sl).1 hs.si 0 (by simp)
      unfold wi
      rw [decide_eq_true, decide_eq_true]
      · rfl
      · have := this.2; simp only [List.getD_cons_zero] at this; dsimp only; omega
      · exact this.1
theorem goal_wide {r : Rig} {g : List (Int × Int)} (h : goalS r g = 0) : goalS r (g.set 0 (0, r.1.getD 0 0 - 1)) = 0 := by
  obtain ⟨h1, h2, h3⟩ := goalS_ok h
  have hb := (checkS_ok h1).2.2.1
  obtain ⟨ps, bs⟩ := r
  dsimp only at *
  unfold goalS
  dsimp only
  rw [if_neg (by rw [h1]; decide), if_neg (by rw [List.length_set]; omega)]
  have : spansE ps (g.set 0 (0, ps.getD 0 0 - 1)) = false := by
    cases ps with
    | nil => rfl
    | cons p ps =>
      cases g with
      | nil => rfl
      | cons x g =>
        rw [List.set_cons_zero, spansE, Bool.or_eq_false_iff]
        rw [spansE, Bool.or_eq_false_iff] at h3
        refine ⟨?_, h3.2⟩
        rw [List.any_cons, Bool.or_eq_false_iff] at hb
        have hp : 2 ≤ p := by
          have := hb.1
          unfold badP wi at this
          rw [Bool.not_eq_false', Bool.and_eq_true, decide_eq_true_eq, decide_eq_true_eq] at this
          exact this.1
        unfold spanBad
        simp only [List.getD_cons_zero]
        rw [decide_eq_false (by omega), decide_eq_false (by omega), decide_eq_false (by omega)]
        rfl
  rw [this, if_neg (by simp)]

/-! ### Fewer bans -/
theorem okM_free {ps : List Int} {bs bs' : List Ban} (hb : ∀ b ∈ bs', b ∈ bs) {s m : List Int} (h : okM ps bs s m = true) : okM ps bs' s m = true := by
  unfold okM at h ⊢
  rw [Bool.and_eq_true] at h ⊢
  exact ⟨h.1, ixS_neg.2 fun b hb' => ixS_neg.1 h.2 b (hb b hb')⟩
theorem safe_free {ps : List Int} {bs bs' : List Ban} (hb : ∀ b ∈ bs', b ∈ bs) {s : List Int} (h : safeS ps bs s = true) : safeS ps bs' s = true := by
  unfold safeS at h ⊢
  exact ixS_neg.2 fun b hb' => ixS_neg.1 h b (hb b hb')
theorem reD_free {ps : List Int} {bs bs' : List Ban} {g : List (Int × Int)} (hb : ∀ b ∈ bs', b ∈ bs) : ∀ {d l : Nat} {s : List Int}, reD ps bs g d l s = true → reD ps bs' g d l s = true := by
  intro d
  induction d with
  | zero =>
    intro l s h
    rw [reD, Bool.and_eq_true] at h ⊢
    exact ⟨safe_free hb h.1, h.2⟩
  | succ d ih =>
    intro l s h
    rw [reD, Bool.or_eq_true, Bool.and_eq_true, List.any_eq_true] at h ⊢
    rcases h with h | ⟨h1, m, hm, h2⟩
    · exact .inl (ih h)
    · rw [Bool.and_eq_true, List.all_eq_true] at h2
      refine .inr ⟨safe_free hb h1, m, hm, ?_⟩
      rw [Bool.and_eq_true, List.all_eq_true]
      exact ⟨okM_free hb h2.1, fun y hy => ih (h2.2 _ hy)⟩
theorem banEs_iff {ps : List Int} : ∀ {l : List Ban}, banEs ps l = 0 ↔ ∀ b ∈ l, banE ps b = 0
  | [] => ⟨fun _ b h => (by cases h), fun _ => rfl⟩
  | b :: l => by
    rw [banEs]
    constructor
    · intro h
      split at h
      · rename_i c; exact absurd h c
      · rename_i c
        intro x hx
        rcases List.mem_cons.1 hx with rfl | hx
        · simpa using c
        · exact banEs_iff.1 h x hx
    · intro h
      rw [if_neg (by rw [h b (by simp)]; decide)]
      exact banEs_iff.2 fun x hx => h x (List.mem_cons_of_mem _ hx)
theorem check_free {ps : List Int} {bs bs' : List Ban} (hl : bs'.length ≤ bs.length) (hb : ∀ b ∈ bs', b ∈ bs) (h : checkS (ps, bs) = 0) : checkS (ps, bs') = 0 := by
  obtain ⟨c1, c2, c3, c4, c5⟩ := checkS_ok h
  dsimp only at *
  unfold checkS
  dsimp only
  rw [if_neg (by omega), if_neg (by omega), c3, if_neg (by simp), if_neg (by omega)]
  exact banEs_iff.2 fun b hb' => banEs_iff.1 c5 b (hb b hb')
theorem goal_free {ps : List Int} {bs bs' : List Ban} {g : List (Int × Int)} (h : goalS (ps, bs) g = 0) (hc : checkS (ps, bs') = 0) : goalS (ps, bs') g = 0 := by
  obtain ⟨h1, h2, h3⟩ := goalS_ok h
  dsimp only at *
  unfold goalS
  dsimp only
  rw [if_neg (by rw [hc]; decide), if_neg (by omega), h3, if_neg (by simp)]
theorem glue_mem {α : Type} {l : List α} {i : Nat} : ∀ b ∈ l.take i ++ l.drop (i + 1), b ∈ l := by
  intro b hb
  rcases List.mem_append.1 hb with h | h
  · exact List.mem_of_mem_take h
  · exact List.mem_of_mem_drop h
/-- Of two tables, one of which says more. -/
theorem tick_more {ps : List Int} {bs bs' : List Ban} {g g' : List (Int × Int)} {l l' : Nat} {s : List Int} (h : ∀ d, reD ps bs g d l s = true → reD ps bs' g' d l' s = true) (h0 : 0 ≤ tickD ps bs g l s) : 0 ≤ tickD ps bs' g' l' s ∧ tickD ps bs' g' l' s ≤ tickD ps bs g l s := by
  have hr := tickD_rng ps bs g l s
  have k1 := fun d hd => tick_le (ps := ps) (bs := bs) (g := g) (l := l) (s := s) (d := d) hd
  have k2 := fun d hd => tick_le (ps := ps) (bs := bs') (g := g') (l := l') (s := s) (d := d) hd
  revert hr k1 k2 h0
  generalize tickD ps bs g l s = x
  generalize tickD ps bs' g' l' s = y
  intro h0 hr k1 k2
  obtain ⟨d, rfl⟩ : ∃ d : Nat, x = d := ⟨x.toNat, by omega⟩
  exact (k2 d (by omega)).2 (h d ((k1 d (by omega)).1 ⟨by omega, by omega⟩))
theorem ticks_le {r r' : Rig} {g g' : List (Int × Int)} {l l' : Nat} {s : List Int} (hl : l ≤ 2) (hl' : l' ≤ 2) (hg : goalS r g = 0) (hg' : goalS r' g' = 0) (hs : Sf r s) (hs' : Sf r' s) (hp : r'.1 = r.1)
    (h : ∀ d, reD r.1 r.2 g d l s = true → reD r.1 r'.2 g' d l' s = true) (ht : (ticksS r s g l).2 = 0) : (ticksS r' s g' l').2 = 0 ∧ (ticksS r' s g' l').1 ≤ (ticksS r s g l).1 := by
  rw [ticksS_sf hg hl hs] at ht ⊢
  rw [ticksS_sf hg' hl' hs', hp]
  have key := tick_more (g' := g') (bs' := r'.2) (l' := l') h
  generalize tickD r.1 r'.2 g' l' s = a at *
  generalize tickD r.1 r.2 g l s = b at *
  by_cases c : b < 0
  · rw [if_pos c] at ht; cases ht
  · rw [if_neg c, if_neg (by omega)]
    exact ⟨rfl, (key (by omega)).2⟩

def c_flag : GC P where
  f := 2
  con := fun _ _ _ => none
  ent := by kernel_rfl
  ok := by intro _ _ _ _ h; cases h

def L_OwnRig : Lay := { slots := [(0, .agg (.pair tIs (.sl (.pair tI (.pair tI (.pair tI tV))))))] }
theorem T_OwnRig (s0_0 : List Int) (s0_1 : List (Int × (Int × (Int × V)))) : mTree (P := P) [] (lpOf []) Try.f24 L_OwnRig true ((s0_0, s0_1), ()) =
  Tree.need (((0 : Nat) + List.length s0_0) * (8 : Nat) ≤ (140737488355328 : Nat)) (Tree.need (((0 : Nat) + List.length s0_1) * (48 : Nat) ≤ (140737488355328 : Nat)) (Tree.leaf { res := SV.agg [SV.own (nat_lit 100), SV.own (nat_lit 101)], boxes := [], news := [Ob.row (3 : Nat) (Ty.int IntKind.i64) s0_0, Ob.row (110 : Nat) (Ty.pair (Ty.int IntKind.i64) (Ty.pair (Ty.int IntKind.i64) (Ty.pair (Ty.int IntKind.i64) (Ty.pair (Ty.int IntKind.i64) (Ty.pair (Ty.int IntKind.i64) (Ty.int IntKind.i64)))))) s0_1] })) := by kernel_rfl

def c_OwnRig : XC P := XC.of (α := (List Int × List (Int × (Int × (Int × V)))) × Unit) 24 L_OwnRig (fun x => x) (fun x => x) (fun _ => rfl)
  (fun x => some (x.1.1.length ≤ 1000 ∧ x.1.2.length ≤ 1000))
  (fun x => ⟨.agg [.own 100, .own 101], [], [.row 3 tI x.1.1, .row 110 tBan x.1.2]⟩) (by kernel_rfl) (by kernel_rfl) (by
    rintro ⟨⟨s0_0, s0_1⟩, ⟨⟩⟩ hp
    refine m_of hm (own := true) (by kernel_rfl) (by kernel_rfl) (by kernel_rfl) (T_OwnRig s0_0 s0_1) trivial ?_

    try dsimp only at hp
    try dsimp only
    have hp' : s0_0.length ≤ 1000 ∧ s0_1.length ≤ 1000 := hp
    refine ⟨by show (0 + s0_0.length) * 8 ≤ 140737488355328; omega, by show (0 + s0_1.length) * 48 ≤ 140737488355328; omega, ?_⟩
    rfl)

theorem T_RigOrder (s0 : List Int) (s1 : Int) : fnTree (P := P) [c_NewRing.gc, c_RigOf.gc, c_Places.gc, c_Goal8.gc, c_Ticks.gc, c_Mod.gc, c_OwnRig.gc, c_awake.gc, c_flag] (lpOf []) Try.f3 (encL 0 [.val tIs, .val tI] (s0, s1, ())) =
  Tree.need ((0 : Int) ≤ (0 : Int) ∧ (0 : Int) ≤ (500000000 : Int))
  (Tree.need (KRig (kRig s0 (0 : Int)) ∧ (0 : Int) ≤ kRigK s0 (0 : Int) ∧ kRigK s0 (0 : Int) ≤ (500000000 : Int))
    (Tree.need (KRig (kRig s0 (0 : Int)) ∧ (0 : Int) ≤ kPlcK s0 (kRig s0 (0 : Int)) (kRigK s0 (0 : Int)) ∧ kPlcK s0 (kRig s0 (0 : Int)) (kRigK s0 (0 : Int)) ≤ (500000000 : Int))
      (Tree.cond ((ticksS (kRig s0 (0 : Int)) (kPlc s0 (kRig s0 (0 : Int)) (kRigK s0 (0 : Int))) (glS s0 (kRig s0 (0 : Int)).fst (kPlcK s0 (kRig s0 (0 : Int)) (kRigK s0 (0 : Int)))) (1 : Int)).snd != (0 : Int)) (Tree.cond ((ticksS (kRig s0 (0 : Int)) (kPlc s0 (kRig s0 (0 : Int)) (kRigK s0 (0 : Int))) (glS s0 (kRig s0 (0 : Int)).fst (kPlcK s0 (kRig s0 (0 : Int)) (kRigK s0 (0 : Int)))) (1 : Int)).snd == (13 : Int)) (Tree.leaf (SV.bool true)) (Tree.cond ((ticksS (kRig s0 (0 : Int)) (kPlc s0 (kRig s0 (0 : Int)) (kRigK s0 (0 : Int))) (glS s0 (kRig s0 (0 : Int)).fst (kPlcK s0 (kRig s0 (0 : Int)) (kRigK s0 (0 : Int)))) (1 : Int)).snd == (12 : Int)) (Tree.leaf (SV.bool true)) (Tree.leaf (SV.bool false))))
        (Tree.need (((0 : Nat) + List.length (glS s0 (kRig s0 (0 : Int)).fst (kPlcK s0 (kRig s0 (0 : Int)) (kRigK s0 (0 : Int))))) * (16 : Nat) ≤ (140737488355328 : Nat))
          (Tree.need ((0 : Int) ≤ (0 : Int) ∧ (0 : Int) < (↑(List.length (kRig s0 (0 : Int)).fst) : Int))
            (Tree.need ((0 : Int) ≤ (0 : Int) ∧ (0 : Int) < (↑(List.length (glS s0 (kRig s0 (0 : Int)).fst (kPlcK s0 (kRig s0 (0 : Int)) (kRigK s0 (0 : Int))))) : Int))
              (Tree.need (Int.toNat (0 : Int) < List.length (glS s0 (kRig s0 (0 : Int)).fst (kPlcK s0 (kRig s0 (0 : Int)) (kRigK s0 (0 : Int)))))
                (Tree.need (List.length (kRig s0 (0 : Int)).fst ≤ (1000 : Nat) ∧ List.length (kRig s0 (0 : Int)).snd ≤ (1000 : Nat))
                  (Tree.cond (decide ((↑(List.length (kRig s0 (0 : Int)).snd) : Int) > (0 : Int))) (Tree.need ((0 : Int) < (↑(List.length (kRig s0 (0 : Int)).snd) : Int) ∧ R64 (↑(List.length (kRig s0 (0 : Int)).snd) : Int)) (Tree.need ((0 : Int) ≤ s1 % (↑(List.length (kRig s0 (0 : Int)).snd) : Int) ∧ s1 % (↑(List.length (kRig s0 (0 : Int)).snd) : Int) ≤ (↑(List.length (kRig s0 (0 : Int)).snd) : Int)) (Tree.need ((0 : Int) ≤ IntKind.wrap IntKind.i64 (s1 % (↑(List.length (kRig s0 (0 : Int)).snd) : Int) + (1 : Int)) ∧ IntKind.wrap IntKind.i64 (s1 % (↑(List.length (kRig s0 (0 : Int)).snd) : Int) + (1 : Int)) ≤ (↑(List.length (kRig s0 (0 : Int)).snd) : Int)) (Tree.need (Int.toNat (s1 % (↑(List.length (kRig s0 (0 : Int)).snd) : Int)) ≤ Int.toNat (IntKind.wrap IntKind.i64 (s1 % (↑(List.length (kRig s0 (0 : Int)).snd) : Int) + (1 : Int))) ∧ Int.toNat (IntKind.wrap IntKind.i64 (s1 % (↑(List.length (kRig s0 (0 : Int)).snd) : Int) + (1 : Int))) ≤ List.length (kRig s0 (0 : Int)).snd ∧ List.length (kRig s0 (0 : Int)).snd = List.length (kRig s0 (0 : Int)).snd) (Tree.cond ((ticksS (kRig s0 (0 : Int)) (kPlc s0 (kRig s0 (0 : Int)) (kRigK s0 (0 : Int))) (glS s0 (kRig s0 (0 : Int)).fst (kPlcK s0 (kRig s0 (0 : Int)) (kRigK s0 (0 : Int)))) (0 : Int)).snd == (0 : Int)) (Tree.cond ((ticksS (kRig s0 (0 : Int)) (kPlc s0 (kRig s0 (0 : Int)) (kRigK s0 (0 : Int))) (List.set (glS s0 (kRig s0 (0 : Int)).fst (kPlcK s0 (kRig s0 (0 : Int)) (kRigK s0 (0 : Int)))) (Int.toNat (0 : Int)) ((0 : Int), IntKind.wrap IntKind.i64 (List.getD (kRig s0 (0 : Int)).fst (Int.toNat (0 : Int)) (0 : Int) - (1 : Int)))) (1 : Int)).snd == (0 : Int)) (Tree.cond ((ticksS ((kRig s0 (0 : Int)).fst, List.take (Int.toNat (s1 % (↑(List.length (kRig s0 (0 : Int)).snd) : Int))) (kRig s0 (0 : Int)).snd ++ List.drop (Int.toNat (IntKind.wrap IntKind.i64 (s1 % (↑(List.length (kRig s0 (0 : Int)).snd) : Int) + (1 : Int)))) (kRig s0 (0 : Int)).snd) (kPlc s0 (kRig s0 (0 : Int)) (kRigK s0 (0 : Int))) (glS s0 (kRig s0 (0 : Int)).fst (kPlcK s0 (kRig s0 (0 : Int)) (kRigK s0 (0 : Int)))) (1 : Int)).snd == (0 : Int)) (Tree.cond (decide ((ticksS (kRig s0 (0 : Int)) (kPlc s0 (kRig s0 (0 : Int)) (kRigK s0 (0 : Int))) (glS s0 (kRig s0 (0 : Int)).fst (kPlcK s0 (kRig s0 (0 : Int)) (kRigK s0 (0 : Int)))) (0 : Int)).fst ≤ (ticksS (kRig s0 (0 : Int)) (kPlc s0 (kRig s0 (0 : Int)) (kRigK s0 (0 : Int))) (glS s0 (kRig s0 (0 : Int)).fst (kPlcK s0 (kRig s0 (0 : Int)) (kRigK s0 (0 : Int)))) (1 : Int)).fst)) (Tree.cond (decide ((ticksS (kRig s0 (0 : Int)) (kPlc s0 (kRig s0 (0 : Int)) (kRigK s0 (0 : Int))) (List.set (glS s0 (kRig s0 (0 : Int)).fst (kPlcK s0 (kRig s0 (0 : Int)) (kRigK s0 (0 : Int)))) (Int.toNat (0 : Int)) ((0 : Int), IntKind.wrap IntKind.i64 (List.getD (kRig s0 (0 : Int)).fst (Int.toNat (0 : Int)) (0 : Int) - (1 : Int)))) (1 : Int)).fst ≤ (ticksS (kRig s0 (0 : Int)) (kPlc s0 (kRig s0 (0 : Int)) (kRigK s0 (0 : Int))) (glS s0 (kRig s0 (0 : Int)).fst (kPlcK s0 (kRig s0 (0 : Int)) (kRigK s0 (0 : Int)))) (1 : Int)).fst)) (Tree.cond (decide ((ticksS ((kRig s0 (0 : Int)).fst, List.take (Int.toNat (s1 % (↑(List.length (kRig s0 (0 : Int)).snd) : Int))) (kRig s0 (0 : Int)).snd ++ List.drop (Int.toNat (IntKind.wrap IntKind.i64 (s1 % (↑(List.length (kRig s0 (0 : Int)).snd) : Int) + (1 : Int)))) (kRig s0 (0 : Int)).snd) (kPlc s0 (kRig s0 (0 : Int)) (kRigK s0 (0 : Int))) (glS s0 (kRig s0 (0 : Int)).fst (kPlcK s0 (kRig s0 (0 : Int)) (kRigK s0 (0 : Int)))) (1 : Int)).fst ≤ (ticksS (kRig s0 (0 : Int)) (kPlc s0 (kRig s0 (0 : Int)) (kRigK s0 (0 : Int))) (glS s0 (kRig s0 (0 : Int)).fst (kPlcK s0 (kRig s0 (0 : Int)) (kRigK s0 (0 : Int)))) (1 : Int)).fst)) (Tree.leaf (SV.bool true)) (Tree.leaf (SV.bool false))) (Tree.leaf (SV.bool false))) (Tree.leaf (SV.bool false))) (Tree.leaf (SV.bool false))) (Tree.leaf (SV.bool false))) (Tree.leaf (SV.bool false)))))))
                    (Tree.cond ((ticksS (kRig s0 (0 : Int)) (kPlc s0 (kRig s0 (0 : Int)) (kRigK s0 (0 : Int))) (glS s0 (kRig s0 (0 : Int)).fst (kPlcK s0 (kRig s0 (0 : Int)) (kRigK s0 (0 : Int)))) (0 : Int)).snd == (0 : Int)) (Tree.cond ((ticksS (kRig s0 (0 : Int)) (kPlc s0 (kRig s0 (0 : Int)) (kRigK s0 (0 : Int))) (List.set (glS s0 (kRig s0 (0 : Int)).fst (kPlcK s0 (kRig s0 (0 : Int)) (kRigK s0 (0 : Int)))) (Int.toNat (0 : Int)) ((0 : Int), IntKind.wrap IntKind.i64 (List.getD (kRig s0 (0 : Int)).fst (Int.toNat (0 : Int)) (0 : Int) - (1 : Int)))) (1 : Int)).snd == (0 : Int)) (Tree.cond ((ticksS (kRig s0 (0 : Int)) (kPlc s0 (kRig s0 (0 : Int)) (kRigK s0 (0 : Int))) (glS s0 (kRig s0 (0 : Int)).fst (kPlcK s0 (kRig s0 (0 : Int)) (kRigK s0 (0 : Int)))) (1 : Int)).snd == (0 : Int)) (Tree.cond (decide ((ticksS (kRig s0 (0 : Int)) (kPlc s0 (kRig s0 (0 : Int)) (kRigK s0 (0 : Int))) (glS s0 (kRig s0 (0 : Int)).fst (kPlcK s0 (kRig s0 (0 : Int)) (kRigK s0 (0 : Int)))) (0 : Int)).fst ≤ (ticksS (kRig s0 (0 : Int)) (kPlc s0 (kRig s0 (0 : Int)) (kRigK s0 (0 : Int))) (glS s0 (kRig s0 (0 : Int)).fst (kPlcK s0 (kRig s0 (0 : Int)) (kRigK s0 (0 : Int)))) (1 : Int)).fst)) (Tree.cond (decide ((ticksS (kRig s0 (0 : Int)) (kPlc s0 (kRig s0 (0 : Int)) (kRigK s0 (0 : Int))) (List.set (glS s0 (kRig s0 (0 : Int)).fst (kPlcK s0 (kRig s0 (0 : Int)) (kRigK s0 (0 : Int)))) (Int.toNat (0 : Int)) ((0 : Int), IntKind.wrap IntKind.i64 (List.getD (kRig s0 (0 : Int)).fst (Int.toNat (0 : Int)) (0 : Int) - (1 : Int)))) (1 : Int)).fst ≤ (ticksS (kRig s0 (0 : Int)) (kPlc s0 (kRig s0 (0 : Int)) (kRigK s0 (0 : Int))) (glS s0 (kRig s0 (0 : Int)).fst (kPlcK s0 (kRig s0 (0 : Int)) (kRigK s0 (0 : Int)))) (1 : Int)).fst)) (Tree.cond (decide ((ticksS (kRig s0 (0 : Int)) (kPlc s0 (kRig s0 (0 : Int)) (kRigK s0 (0 : Int))) (glS s0 (kRig s0 (0 : Int)).fst (kPlcK s0 (kRig s0 (0 : Int)) (kRigK s0 (0 : Int)))) (1 : Int)).fst ≤ (ticksS (kRig s0 (0 : Int)) (kPlc s0 (kRig s0 (0 : Int)) (kRigK s0 (0 : Int))) (glS s0 (kRig s0 (0 : Int)).fst (kPlcK s0 (kRig s0 (0 : Int)) (kRigK s0 (0 : Int)))) (1 : Int)).fst)) (Tree.leaf (SV.bool true)) (Tree.leaf (SV.bool false))) (Tree.leaf (SV.bool false))) (Tree.leaf (SV.bool false))) (Tree.leaf (SV.bool false))) (Tree.leaf (SV.bool false))) (Tree.leaf (SV.bool false)))))))))))) := by kernel_rfl

def c_RigOrder : PC P := PC.of (α := List Int × Int × Unit) 3 [.val tIs, .val tI] (fun x => x) (fun x => x) (fun _ => rfl)
  (fun _ => none)
  (fun x => .bool true) (by kernel_rfl) (by
    rintro ⟨s0, s1, ⟨⟩⟩ hp
    refine fn_of hm (by kernel_rfl) (by kernel_rfl) (T_RigOrder s0 s1) trivial ?_

    try dsimp only at hp
    try dsimp only
    obtain ⟨hk, hk1, hk2⟩ := kRig_ok (l := s0) (k := 0) (by decide)
    obtain ⟨v, v1, v2⟩ := kPlc_ok (l := s0) hk hk1
    have l2 := hk.l2
    have l3 := hk.l3
    have bl := hk.bl
    have hg := goal_ok (l := s0) hk (k := kPlcK s0 (kRig s0 0) (kRigK s0 0)) (by omega)
    have gl := (goalS_ok hg).2.1
    generalize kPlcK s0 (kRig s0 0) (kRigK s0 0) = k1 at *
    generalize kPlc s0 (kRig s0 0) (kRigK s0 0) = s at *
    generalize kRigK s0 0 = k0 at *
    generalize kRig s0 0 = r at *
    generalize glS s0 r.1 k1 = g at *
    have hb := (checkS_ok hk.ck).2.2.1
    have hp0 := place_ne' (i := 0) hb (by omega)
    have hW : IntKind.wrap IntKind.i64 (r.1.getD 0 0 - 1) = r.1.getD 0 0 - 1 := W_id (by omega) (by omega)
    simp only [Int.toNat_zero, hW]
    have hT := ticksS_of hk.ck hg (losses := 1) (by decide) v
    have hT1 : (ticksS r s g 1).2 = 0 ∨ (ticksS r s g 1).2 = 13 ∨ (ticksS r s g 1).2 = 12 := by
      have hT : ticksS r s g 1 = _ := hT
      rw [hT]
      split
      · split
        · exact .inr (.inl rfl)
        · exact .inl rfl
      · exact .inr (.inr rfl)
    refine ⟨⟨by decide, by decide⟩, ⟨hk, hk1, by omega⟩, ⟨hk, by omega, by omega⟩, fun c1 => ⟨fun c2 => rfl, fun c2 => ⟨fun c3 => rfl, fun c3 => ?_⟩⟩, fun c1 => ?_⟩
    · exfalso
      rcases hT1 with h | h | h
      · rw [h] at c1; cases c1
      · rw [h] at c2; cases c2
      · rw [h] at c3; cases c3
    have d1 : (ticksS r s g 1).2 = 0 := by simpa using c1
    have hsafe : safeS r.1 r.2 s = true := by
      cases c : safeS r.1 r.2 s with
      | true => rfl
      | false =>
        rw [c, if_neg (by simp)] at hT
        have hT : ticksS r s g 1 = _ := hT
        rw [hT] at d1; cases d1
    have hs : Sf r s := ⟨hk.ck, v, hsafe⟩
    have a1 : (ticksS r s g 0).2 = 0 ∧ (ticksS r s g 0).1 ≤ (ticksS r s g 1).1 := ticks_le (l := 1) (l' := 0) (by decide) (by decide) hg hg hs hs rfl (fun d h => reD_less h) d1
    have a2 : (ticksS r s (g.set 0 (0, r.1.getD 0 0 - 1)) 1).2 = 0 ∧ (ticksS r s (g.set 0 (0, r.1.getD 0 0 - 1)) 1).1 ≤ (ticksS r s g 1).1 := ticks_le (l := 1) (l' := 1) (by decide) (by decide) hg (goal_wide hg) hs hs rfl (fun d h => reD_wide hb (fun t ht hi => by
      obtain ⟨ps, bs⟩ := r
      cases ps with
      | nil => simp at l2
      | cons p ps => exact inG_wide ht hi) v h) d1
    refine ⟨by omega, ⟨by decide, by omega⟩, ⟨by decide, by omega⟩, by omega, ⟨by omega, by omega⟩, fun c4 => ?_, fun c4 => ?_⟩
    · have d4 := of_decide_eq_true c4
      have hne : (r.2.length : Int) ≠ 0 := by omega
      have q0 := Int.emod_nonneg s1 hne
      have q1 := Int.emod_lt_of_pos s1 (show (0 : Int) < r.2.length by omega)
      generalize s1 % (r.2.length : Int) = q at *
      have hW2 : IntKind.wrap IntKind.i64 (q + 1) = q + 1 := W_id (by omega) (by omega)
      simp only [hW2, show (q + 1).toNat = q.toNat + 1 by omega]
      have hm : ∀ b ∈ r.2.take q.toNat ++ r.2.drop (q.toNat + 1), b ∈ r.2 := glue_mem
      have hl : (r.2.take q.toNat ++ r.2.drop (q.toNat + 1)).length ≤ r.2.length := by simp; omega
      have hck : checkS (r.1, r.2.take q.toNat ++ r.2.drop (q.toNat + 1)) = 0 := check_free hl hm hk.ck
      have a3 : (ticksS (r.1, r.2.take q.toNat ++ r.2.drop (q.toNat + 1)) s g 1).2 = 0 ∧ (ticksS (r.1, r.2.take q.toNat ++ r.2.drop (q.toNat + 1)) s g 1).1 ≤ (ticksS r s g 1).1 :=
        ticks_le (l := 1) (l' := 1) (by decide) (by decide) hg (goal_free (bs := r.2) hg hck) hs ⟨hck, v, safe_free hm hsafe⟩ rfl (fun d h => reD_free hm h) d1
      refine ⟨⟨by omega, by omega, by omega⟩, ⟨by omega, by omega⟩, ⟨by omega, by omega⟩, ⟨by omega, by omega, trivial⟩, ⟨fun _ => ⟨fun _ => ⟨fun _ => ⟨fun _ => ⟨fun _ => ⟨fun _ => rfl, fun c => absurd a3.2 (of_decide_eq_false c)⟩, fun c => absurd a2.2 (of_decide_eq_false c)⟩, fun c => absurd a1.2 (of_decide_eq_false c)⟩, fun c => absurd a3.1 (ne_of_beq_false c)⟩, fun c => absurd a2.1 (ne_of_beq_false c)⟩, fun c => absurd a1.1 (ne_of_beq_false c)⟩⟩
    · exact ⟨fun _ => ⟨fun _ => ⟨fun _ => ⟨fun _ => ⟨fun _ => ⟨fun _ => rfl, fun c => absurd (Int.le_refl _) (of_decide_eq_false c)⟩, fun c => absurd a2.2 (of_decide_eq_false c)⟩, fun c => absurd a1.2 (of_decide_eq_false c)⟩, fun c => absurd d1 (ne_of_beq_false c)⟩, fun c => absurd a2.1 (ne_of_beq_false c)⟩, fun c => absurd a1.1 (ne_of_beq_false c)⟩)

end
end Go.MR
