/- Rams: which bans keep a ram from joints; plain laws. -/
import Derived.Test.YtdoobpeacbcohaaMxX
namespace Go.MR
open Go Go.Sx Go.Proofs
set_option linter.unusedVariables false
set_option linter.unusedSimpArgs false
noncomputable section
def shP (nr:Int → Bool) (mk:Int → Int → Ban) (n:Int):Nat → Int → Int → List Ban → List Ban
  | 0,_,_,out => out
  | k + 1,h,f,out =>
    if (decide (h < n) && nr h) = true then (if f < 0 then shP nr mk n k (h + 1) h out else shP nr mk n k (h + 1) f out)
    else (if f ≥ 0 then shP nr mk n k (h + 1) (-1) (out ++ [mk f (h - 1)]) else shP nr mk n k (h + 1) f out)
theorem shP_yes {nr:Int → Bool} {mk:Int → Int → Ban} {n:Int} {k:Nat} {h f:Int} {out:List Ban} (c:(decide (h < n) && nr h) = true):shP nr mk n (k + 1) h f out = if f < 0 then shP nr mk n k (h + 1) h out else shP nr mk n k (h + 1) f out:=by
  rw [shP,if_pos c]
theorem shP_no {nr:Int → Bool} {mk:Int → Int → Ban} {n:Int} {k:Nat} {h f:Int} {out:List Ban} (c:(decide (h < n) && nr h) = false):shP nr mk n (k + 1) h f out = if f ≥ 0 then shP nr mk n k (h + 1) (-1) (out ++ [mk f (h - 1)]) else shP nr mk n k (h + 1) f out:=by
  rw [shP,if_neg (by rw [c]; decide)]
theorem shP_sub {nr:Int → Bool} {mk:Int → Int → Ban} {n:Int}:∀ (k:Nat) (h f:Int) (out:List Ban),∀ b ∈ out,b ∈ shP nr mk n k h f out
  | 0,h,f,out,b,hb => hb
  | k + 1,h,f,out,b,hb => by
    rw [shP]
    split
    · split
      · exact shP_sub k _ _ _ b hb
      · exact shP_sub k _ _ _ b hb
    · split
      · exact shP_sub k _ _ _ b (List.mem_append_left _ hb)
      · exact shP_sub k _ _ _ b hb
theorem shP_len {nr:Int → Bool} {mk:Int → Int → Ban} {n:Int}:∀ (k:Nat) (h f:Int) (out:List Ban),(shP nr mk n k h f out).length ≤ out.length + k
  | 0,h,f,out => Nat.le_refl _
  | k + 1,h,f,out => by
    rw [shP]
    split
    · split
      · have:=shP_len (nr:=nr) (mk:=mk) (n:=n) k (h + 1) h out; omega
      · have:=shP_len (nr:=nr) (mk:=mk) (n:=n) k (h + 1) f out; omega
    · split
      · have:=shP_len (nr:=nr) (mk:=mk) (n:=n) k (h + 1) (-1) (out ++ [mk f (h - 1)])
        rw [List.length_append,List.length_singleton] at this; omega
      · have:=shP_len (nr:=nr) (mk:=mk) (n:=n) k (h + 1) f out; omega
theorem shP_mem {nr:Int → Bool} {mk:Int → Int → Ban} {n:Int}:∀ (k:Nat) (h f:Int) (out:List Ban),0 ≤ h → (0 ≤ f → f < h ∧ ∀ x,f ≤ x → x < h → nr x = true ∧ x < n) →
    ∀ b ∈ shP nr mk n k h f out,b ∈ out ∨ ∃ a c,b = mk a c ∧ 0 ≤ a ∧ a ≤ c ∧ c < n ∧ ∀ x,a ≤ x → x ≤ c → nr x = true
  | 0,h,f,out,_,_,b,hb => .inl hb
  | k + 1,h,f,out,h0,hf,b,hb => by
    by_cases c:(decide (h < n) && nr h) = true
    · rw [shP_yes c] at hb
      rw [Bool.and_eq_true,decide_eq_true_eq] at c
      by_cases d:f < 0
      · rw [if_pos d] at hb
        refine shP_mem k (h + 1) h out (by omega) (fun _ => ⟨by omega,fun x x1 x2 => ?_⟩) b hb
        rw [show x = h by omega]; exact ⟨c.2,c.1⟩
      · rw [if_neg d] at hb
        obtain ⟨f1,f2⟩:=hf (by omega)
        refine shP_mem k (h + 1) f out (by omega) (fun _ => ⟨by omega,fun x x1 x2 => ?_⟩) b hb
        by_cases e:x = h
        · rw [e]; exact ⟨c.2,c.1⟩
        · exact f2 x x1 (by omega)
    · have c' : (decide (h < n) && nr h) = false:=by simpa using c
      rw [shP_no c'] at hb
      by_cases d:f ≥ 0
      · rw [if_pos d] at hb
        obtain ⟨f1,f2⟩:=hf d
        rcases shP_mem k (h + 1) (-1) _ (by omega) (fun x => by omega) b hb with hb | hb
        · rcases List.mem_append.1 hb with hb | hb
          · exact .inl hb
          · rw [List.mem_singleton] at hb
            refine .inr ⟨f,h - 1,hb,d,by omega,(f2 (h - 1) (by omega) (by omega)).2,fun x x1 x2 => (f2 x x1 (by omega)).1⟩
        · exact .inr hb
      · rw [if_neg d] at hb
        exact shP_mem k (h + 1) f out (by omega) (fun x => by omega) b hb
theorem shP_all {nr:Int → Bool} {mk:Int → Int → Ban} {n:Int}:∀ (k:Nat) (h f:Int) (out:List Ban),0 ≤ h → h + k = n + 1 → (0 ≤ f → f < h ∧ h ≤ n) → ∀ x,x < n → nr x = true → (h ≤ x ∨ (0 ≤ f ∧ f ≤ x ∧ x < h)) →
    ∃ a c,mk a c ∈ shP nr mk n k h f out ∧ a ≤ x ∧ x ≤ c
  | 0,h,f,out,hz,h1,hf,x,x1,x2,x3 => by
    omega
  | k + 1,h,f,out,hz,h1,hf,x,x1,x2,x3 => by
    by_cases c:(decide (h < n) && nr h) = true
    · have c2:h < n:=by
        rw [Bool.and_eq_true,decide_eq_true_eq] at c
        exact c.1
      rw [shP_yes c]
      by_cases d:f < 0
      · rw [if_pos d]
        exact shP_all k (h + 1) h out (by omega) (by omega) (fun _ => by omega) x x1 x2 (by omega)
      · rw [if_neg d]
        exact shP_all k (h + 1) f out (by omega) (by omega) (fun _ => by omega) x x1 x2 (by omega)
    · have c' : (decide (h < n) && nr h) = false:=by simpa using c
      rw [shP_no c']
      have hx:x ≠ h:=by
        rintro rfl
        exact c (by rw [x2,decide_eq_true x1]; rfl)
      by_cases d:f ≥ 0
      · rw [if_pos d]
        by_cases e:x < h
        · exact ⟨f,h - 1,shP_sub k _ _ _ _ (List.mem_append_right _ (by simp)),by omega,by omega⟩
        · exact shP_all k (h + 1) (-1) _ (by omega) (by omega) (fun _ => by omega) x x1 x2 (by omega)
      · rw [if_neg d]
        exact shP_all k (h + 1) f out (by omega) (by omega) (fun _ => by omega) x x1 x2 (by omega)
end
end Go.MR
