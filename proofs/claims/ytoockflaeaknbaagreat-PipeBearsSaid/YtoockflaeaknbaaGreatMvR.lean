/- Tubes and strings made of numbers. -/
import Derived.Test.YtoockflaeaknbaaGreatMvC
import Derived.Test.YtoockflaeaknbaaGreatMvB
namespace Go.MP
open Go Go.Sx Go.Proofs
set_option linter.unusedVariables false
set_option linter.unusedSimpArgs false
noncomputable section
def tubeK (l:List Int) (k:Int):Tb × Int :=
  ((1 + nextS l k 12,100 + nextS l (k + 1) 1500,22000 * (1 + nextS l (k + 1 + 1) 150) + (1 + nextS l (k + 1 + 1 + 1 + 1 + 1 + 1) 600000),1 + nextS l (k + 1 + 1) 150,2 + nextS l (k + 1 + 1 + 1) 30,
    (if nextS l (k + 1 + 1 + 1 + 1 + 1 + 1 + 1) 3 = 0 then (1 + nextS l (k + 1 + 1 + 1 + 1 + 1 + 1 + 1 + 1) 1048576) * 1024 else 274877906944),(if nextS l (k + 1 + 1 + 1 + 1 + 1 + 1 + 1) 3 = 0 then (1 + nextS l (k + 1 + 1 + 1 + 1 + 1 + 1 + 1 + 1 + 1) 1048576) * 4096 else 17592186044416),nextS l (k + 1 + 1 + 1 + 1) 1048576,nextS l (k + 1 + 1 + 1 + 1 + 1) 1000),
   if nextS l (k + 1 + 1 + 1 + 1 + 1 + 1 + 1) 3 = 0 then (k + 1 + 1 + 1 + 1 + 1 + 1 + 1 + 1 + 1 + 1) else (k + 1 + 1 + 1 + 1 + 1 + 1 + 1 + 1))
theorem tubeK_ok {l:List Int} {k:Int} (h:0 ≤ k):Fair (tubeK l k).1 ∧ (tubeK l k).1.1 ≤ 12 ∧ (tubeK l k).1.2.1 ≤ 1600 ∧ (∀ m,0 ≤ m → m ≤ 22000 → 0 < wetS (tubeK l k).1 m) ∧ k ≤ (tubeK l k).2 ∧ (tubeK l k).2 ≤ k + 10:=by
  have n0:=nextS_rng (l:=l) (k:=k) (n:=12) h (by decide)
  have n1:=nextS_rng (l:=l) (k:=k + 1) (n:=1500) (by omega) (by decide)
  have n2:=nextS_rng (l:=l) (k:=k + 1 + 1) (n:=150) (by omega) (by decide)
  have n3:=nextS_rng (l:=l) (k:=k + 1 + 1 + 1) (n:=30) (by omega) (by decide)
  have n4:=nextS_rng (l:=l) (k:=k + 1 + 1 + 1 + 1) (n:=1048576) (by omega) (by decide)
  have n5:=nextS_rng (l:=l) (k:=k + 1 + 1 + 1 + 1 + 1) (n:=1000) (by omega) (by decide)
  have n6:=nextS_rng (l:=l) (k:=k + 1 + 1 + 1 + 1 + 1 + 1) (n:=600000) (by omega) (by decide)
  have n8:=nextS_rng (l:=l) (k:=k + 1 + 1 + 1 + 1 + 1 + 1 + 1 + 1) (n:=1048576) (by omega) (by decide)
  have n9:=nextS_rng (l:=l) (k:=k + 1 + 1 + 1 + 1 + 1 + 1 + 1 + 1 + 1) (n:=1048576) (by omega) (by decide)
  have hf:Fair (tubeK l k).1:=by
    unfold tubeK
    refine ⟨?_,?_,?_,?_,?_,?_,?_,?_,?_⟩ <;> dsimp only <;> first | omega | (split <;> omega)
  refine ⟨hf,by show 1 + nextS l k 12 ≤ 12; omega,by show 100 + nextS l (k + 1) 1500 ≤ 1600; omega,fun m h0 h1 => ?_,?_,?_⟩
  · rw [(hf.wet h0 (show m ≤ 40000 by omega)).1]
    show 0 < 22000 * (1 + nextS l (k + 1 + 1) 150) + (1 + nextS l (k + 1 + 1 + 1 + 1 + 1 + 1) 600000) - m * (1 + nextS l (k + 1 + 1) 150)
    have:=Int.mul_le_mul_of_nonneg_right h1 (show 0 ≤ 1 + nextS l (k + 1 + 1) 150 by omega)
    omega
  · unfold tubeK; dsimp only; split <;> omega
  · unfold tubeK; dsimp only; split <;> omega
theorem shl10 (a:Int):shlI .i64 a 10 = IntKind.i64.wrap (a * 1024):=rfl
theorem shl12 (a:Int):shlI .i64 a 12 = IntKind.i64.wrap (a * 4096):=rfl
def L_kTube:Lay:={ slots:=[(0,.ptr 1 0)],boxes:=[(1,[.val tIs,.val tI])] }
theorem T_kTube (l:List Int) (k:Int):mTree (P:=P) [c_Next.gc] (lpOf []) Tryz.f34 L_kTube true ((),l,k,()) =
  Tree.need ((0:Int) ≤ k ∧ k < (1099511627776:Int) ∧ (0:Int) < (12:Int)) (.need ((0:Int) ≤ k + (1:Int) ∧ k + (1:Int) < (1099511627776:Int) ∧ (0:Int) < (1500:Int)) (.need ((0:Int) ≤ k + (1:Int) + (1:Int) ∧ k + (1:Int) + (1:Int) < (1099511627776:Int) ∧ (0:Int) < (150:Int)) (.need ((0:Int) ≤ k + (1:Int) + (1:Int) + (1:Int) ∧ k + (1:Int) + (1:Int) + (1:Int) < (1099511627776:Int) ∧ (0:Int) < (30:Int)) (.need ((0:Int) ≤ k + (1:Int) + (1:Int) + (1:Int) + (1:Int) ∧ k + (1:Int) + (1:Int) + (1:Int) + (1:Int) < (1099511627776:Int) ∧ (0:Int) < (1048576:Int)) (.need ((0:Int) ≤ k + (1:Int) + (1:Int) + (1:Int) + (1:Int) + (1:Int) ∧ k + (1:Int) + (1:Int) + (1:Int) + (1:Int) + (1:Int) < (1099511627776:Int) ∧ (0:Int) < (1000:Int)) (.need ((0:Int) ≤ k + (1:Int) + (1:Int) + (1:Int) + (1:Int) + (1:Int) + (1:Int) ∧ k + (1:Int) + (1:Int) + (1:Int) + (1:Int) + (1:Int) + (1:Int) < (1099511627776:Int) ∧ (0:Int) < (600000:Int)) (.need ((0:Int) ≤ k + (1:Int) + (1:Int) + (1:Int) + (1:Int) + (1:Int) + (1:Int) + (1:Int) ∧ k + (1:Int) + (1:Int) + (1:Int) + (1:Int) + (1:Int) + (1:Int) + (1:Int) < (1099511627776:Int) ∧ (0:Int) < (3:Int)) (.cond (nextS l (k + (1:Int) + (1:Int) + (1:Int) + (1:Int) + (1:Int) + (1:Int) + (1:Int)) (3:Int) == (0:Int)) (.need ((0:Int) ≤ k + (1:Int) + (1:Int) + (1:Int) + (1:Int) + (1:Int) + (1:Int) + (1:Int) + (1:Int) ∧ k + (1:Int) + (1:Int) + (1:Int) + (1:Int) + (1:Int) + (1:Int) + (1:Int) + (1:Int) < (1099511627776:Int) ∧ (0:Int) < (1048576:Int)) (.need ((0:Int) ≤ (10:Int)) (.need ((0:Int) ≤ k + (1:Int) + (1:Int) + (1:Int) + (1:Int) + (1:Int) + (1:Int) + (1:Int) + (1:Int) + (1:Int) ∧ k + (1:Int) + (1:Int) + (1:Int) + (1:Int) + (1:Int) + (1:Int) + (1:Int) + (1:Int) + (1:Int) < (1099511627776:Int) ∧ (0:Int) < (1048576:Int)) (.need ((0:Int) ≤ (12:Int)) (.leaf { res:=SV.agg [SV.int IntKind.i64 (IntKind.i64.wrap ((1:Int) + nextS l k (12:Int))),SV.int IntKind.i64 (IntKind.i64.wrap ((100:Int) + nextS l (k + (1:Int)) (1500:Int))),SV.int IntKind.i64 (IntKind.i64.wrap (IntKind.i64.wrap ((22000:Int) * IntKind.i64.wrap ((1:Int) + nextS l (k + (1:Int) + (1:Int)) (150:Int))) + IntKind.i64.wrap ((1:Int) + nextS l (k + (1:Int) + (1:Int) + (1:Int) + (1:Int) + (1:Int) + (1:Int)) (600000:Int)))),SV.int IntKind.i64 (IntKind.i64.wrap ((1:Int) + nextS l (k + (1:Int) + (1:Int)) (150:Int))),SV.int IntKind.i64 (IntKind.i64.wrap ((2:Int) + nextS l (k + (1:Int) + (1:Int) + (1:Int)) (30:Int))),SV.int IntKind.i64 (shlI IntKind.i64 (IntKind.i64.wrap ((1:Int) + nextS l (k + (1:Int) + (1:Int) + (1:Int) + (1:Int) + (1:Int) + (1:Int) + (1:Int) + (1:Int)) (1048576:Int))) (10:Int)),SV.int IntKind.i64 (shlI IntKind.i64 (IntKind.i64.wrap ((1:Int) + nextS l (k + (1:Int) + (1:Int) + (1:Int) + (1:Int) + (1:Int) + (1:Int) + (1:Int) + (1:Int) + (1:Int)) (1048576:Int))) (12:Int)),SV.int IntKind.i64 (nextS l (k + (1:Int) + (1:Int) + (1:Int) + (1:Int)) (1048576:Int)),SV.int IntKind.i64 (nextS l (k + (1:Int) + (1:Int) + (1:Int) + (1:Int) + (1:Int)) (1000:Int))],boxes:=[[SV.sl tI l,SV.int IntKind.i64 (k + (1:Int) + (1:Int) + (1:Int) + (1:Int) + (1:Int) + (1:Int) + (1:Int) + (1:Int) + (1:Int) + (1:Int))]] }))))) (.leaf { res:=SV.agg [SV.int IntKind.i64 (IntKind.i64.wrap ((1:Int) + nextS l k (12:Int))),SV.int IntKind.i64 (IntKind.i64.wrap ((100:Int) + nextS l (k + (1:Int)) (1500:Int))),SV.int IntKind.i64 (IntKind.i64.wrap (IntKind.i64.wrap ((22000:Int) * IntKind.i64.wrap ((1:Int) + nextS l (k + (1:Int) + (1:Int)) (150:Int))) + IntKind.i64.wrap ((1:Int) + nextS l (k + (1:Int) + (1:Int) + (1:Int) + (1:Int) + (1:Int) + (1:Int)) (600000:Int)))),SV.int IntKind.i64 (IntKind.i64.wrap ((1:Int) + nextS l (k + (1:Int) + (1:Int)) (150:Int))),SV.int IntKind.i64 (IntKind.i64.wrap ((2:Int) + nextS l (k + (1:Int) + (1:Int) + (1:Int)) (30:Int))),SV.int IntKind.i64 (274877906944:Int),SV.int IntKind.i64 (17592186044416:Int),SV.int IntKind.i64 (nextS l (k + (1:Int) + (1:Int) + (1:Int) + (1:Int)) (1048576:Int)),SV.int IntKind.i64 (nextS l (k + (1:Int) + (1:Int) + (1:Int) + (1:Int) + (1:Int)) (1000:Int))],boxes:=[[SV.sl tI l,SV.int IntKind.i64 (k + (1:Int) + (1:Int) + (1:Int) + (1:Int) + (1:Int) + (1:Int) + (1:Int) + (1:Int))]] }))))))))):=by kernel_rfl
def c_kTube:MC P:=MC.of (α:=Unit × List Int × Int × Unit) 34 L_kTube (fun x => x) (fun x => x) (fun _ => rfl)
  (fun x => some (0 ≤ x.2.2.1 ∧ x.2.2.1 < 1000000000))
  (fun x => ⟨.agg [.int .i64 (tubeK x.2.1 x.2.2.1).1.1,.int .i64 (tubeK x.2.1 x.2.2.1).1.2.1,.int .i64 (tubeK x.2.1 x.2.2.1).1.2.2.1,.int .i64 (tubeK x.2.1 x.2.2.1).1.2.2.2.1,.int .i64 (tubeK x.2.1 x.2.2.1).1.2.2.2.2.1,.int .i64 (tubeK x.2.1 x.2.2.1).1.2.2.2.2.2.1,.int .i64 (tubeK x.2.1 x.2.2.1).1.2.2.2.2.2.2.1,.int .i64 (tubeK x.2.1 x.2.2.1).1.2.2.2.2.2.2.2.1,.int .i64 (tubeK x.2.1 x.2.2.1).1.2.2.2.2.2.2.2.2],[[.sl tI x.2.1,.int .i64 (tubeK x.2.1 x.2.2.1).2]],[]⟩) (by kernel_rfl) (by kernel_rfl) (by kernel_rfl) (by
    rintro ⟨⟨⟩,l,k,⟨⟩⟩ hp
    refine m_of hm (own:=true) (by kernel_rfl) (by kernel_rfl) (by kernel_rfl) (T_kTube l k) trivial ?_
    try dsimp only at hp
    try dsimp only
    obtain ⟨h0,h1⟩ : 0 ≤ k ∧ k < 1000000000:=hp
    have n0:=nextS_rng (l:=l) (k:=k) (n:=12) h0 (by decide)
    have n1:=nextS_rng (l:=l) (k:=k + 1) (n:=1500) (by omega) (by decide)
    have n2:=nextS_rng (l:=l) (k:=k + 1 + 1) (n:=150) (by omega) (by decide)
    have n3:=nextS_rng (l:=l) (k:=k + 1 + 1 + 1) (n:=30) (by omega) (by decide)
    have n6:=nextS_rng (l:=l) (k:=k + 1 + 1 + 1 + 1 + 1 + 1) (n:=600000) (by omega) (by decide)
    have n8:=nextS_rng (l:=l) (k:=k + 1 + 1 + 1 + 1 + 1 + 1 + 1 + 1) (n:=1048576) (by omega) (by decide)
    have n9:=nextS_rng (l:=l) (k:=k + 1 + 1 + 1 + 1 + 1 + 1 + 1 + 1 + 1) (n:=1048576) (by omega) (by decide)
    rw [shl10,shl12,W_id (n:=1 + nextS l k 12) (by omega) (by omega),W_id (n:=100 + nextS l (k + 1) 1500) (by omega) (by omega),W_id (n:=1 + nextS l (k + 1 + 1) 150) (by omega) (by omega),W_id (n:=2 + nextS l (k + 1 + 1 + 1) 30) (by omega) (by omega),W_id (n:=1 + nextS l (k + 1 + 1 + 1 + 1 + 1 + 1) 600000) (by omega) (by omega),W_id (n:=22000 * (1 + nextS l (k + 1 + 1) 150)) (by omega) (by omega),W_id (n:=22000 * (1 + nextS l (k + 1 + 1) 150) + (1 + nextS l (k + 1 + 1 + 1 + 1 + 1 + 1) 600000)) (by omega) (by omega),W_id (n:=1 + nextS l (k + 1 + 1 + 1 + 1 + 1 + 1 + 1 + 1) 1048576) (by omega) (by omega),W_id (n:=(1 + nextS l (k + 1 + 1 + 1 + 1 + 1 + 1 + 1 + 1) 1048576) * 1024) (by omega) (by omega),W_id (n:=1 + nextS l (k + 1 + 1 + 1 + 1 + 1 + 1 + 1 + 1 + 1) 1048576) (by omega) (by omega),W_id (n:=(1 + nextS l (k + 1 + 1 + 1 + 1 + 1 + 1 + 1 + 1 + 1) 1048576) * 4096) (by omega) (by omega)]
    unfold tubeK
    refine ⟨by omega,by omega,by omega,by omega,by omega,by omega,by omega,by omega,fun c1 => ⟨by omega,by decide,by omega,by decide,?_⟩,fun c1 => ?_⟩
    · have c1:nextS l (k + 1 + 1 + 1 + 1 + 1 + 1 + 1) 3 = 0:=eq_of_beq c1
      simp only [if_pos c1]
      exact rfl
    · have c1:¬ nextS l (k + 1 + 1 + 1 + 1 + 1 + 1 + 1) 3 = 0:=by simpa using c1
      simp only [if_neg c1]
      exact rfl)
theorem sumL_nn:∀ (l:List V) (d:Int),(∀ v ∈ l,legOk v) → 0 ≤ d → d + 131072 * l.length ≤ 1048576000 → 0 ≤ sumL d l
  | [],d,_,h,_ => h
  | v :: r,d,hl,h0,h1 => by
    obtain ⟨_,w1,w2⟩:=hl v (by simp)
    rw [List.length_cons] at h1
    have hw:IntKind.i64.wrap (d + (wholeS v).1) = d + (wholeS v).1:=W_id (by omega) (by omega)
    have:=sumL_nn r (d + (wholeS v).1) (fun u hu => hl u (by simp [hu])) (by omega) (by omega)
    have e:sumL d (v :: r) = sumL (d + (wholeS v).1) r:=by unfold sumL; rw [List.foldl_cons,hw]
    rw [e]; exact this
theorem sumL_le:∀ (l:List V) (d:Int),(∀ v ∈ l,legOk v) → 0 ≤ d → d + 131072 * l.length ≤ 1048576000 → sumL d l ≤ d + 131072 * l.length
  | [],d,_,_,_ => by show d ≤ d + 131072 * ((0:Nat):Int); omega
  | v :: r,d,hl,h0,h1 => by
    obtain ⟨_,w1,w2⟩:=hl v (by simp)
    rw [List.length_cons] at h1 ⊢
    have hw:IntKind.i64.wrap (d + (wholeS v).1) = d + (wholeS v).1:=W_id (by omega) (by omega)
    have:=sumL_le r (d + (wholeS v).1) (fun u hu => hl u (by simp [hu])) (by omega) (by omega)
    have e:sumL d (v :: r) = sumL (d + (wholeS v).1) r:=by unfold sumL; rw [List.foldl_cons,hw]
    rw [e]; omega
theorem lenS_le (p:Pth):lenS p ≤ 1048576000:=by
  unfold lenS
  split
  · rename_i h
    have:=checkS_len h
    have:=sumL_le p.2 0 (checkS_legs h) (by decide) (by omega)
    omega
  · decide
theorem lenS_nn (p:Pth):0 ≤ lenS p:=by
  unfold lenS
  split
  · rename_i h
    have:=checkS_len h
    exact sumL_nn p.2 0 (checkS_legs h) (by decide) (by omega)
  · decide
def cutT (n:Int) (s:List Tb) (t:Tb):Tb:=(if (n - sumT s) / t.2.1 < t.1 then (n - sumT s) / t.2.1 else t.1,t.2)
def addT (n:Int) (s:List Tb) (t:Tb):List Tb:=if 0 < (cutT n s t).1 then s ++ [cutT n s t] else s
def strK (l:List Int) (n:Int):Nat → Int → List Tb → List Tb × Int
  | 0,k,s => (s,k)
  | m + 1,k,s => strK l n m (tubeK l k).2 (addT n s (tubeK l k).1)
theorem strK_succ (l:List Int) (n:Int) (m:Nat) (k:Int) (s:List Tb):strK l n (m + 1) k s = strK l n m (tubeK l k).2 (addT n s (tubeK l k).1):=rfl
structure StrOk (n:Int) (s:List Tb):Prop where
  fair:AllF s
  le:sumT s ≤ n
  few:sumT s ≤ 19200 * s.length
  wet:∀ t ∈ s,∀ m,0 ≤ m → m ≤ 22000 → 0 < wetS t m
theorem sumT_append (a b:List Tb):sumT (a ++ b) = sumT a + sumT b:=by
  induction a with
  | nil => simp [sumT]
  | cons t r ih => rw [List.cons_append,sumT,sumT,ih]; omega
theorem addT_ok {l:List Int} {n k:Int} {s:List Tb} (h:StrOk n s) (hk:0 ≤ k):StrOk n (addT n s (tubeK l k).1) ∧ (addT n s (tubeK l k).1).length ≤ s.length + 1:=by
  obtain ⟨hf,h1,h2,h3,_,_⟩:=tubeK_ok (l:=l) hk
  generalize (tubeK l k).1 = t at *
  unfold addT
  by_cases hc:0 < (cutT n s t).1
  · rw [if_pos hc]
    have hlen:=hf.len
    have hq:(n - sumT s) / t.2.1 * t.2.1 ≤ n - sumT s:=Int.ediv_mul_le _ (by omega)
    have hle:(cutT n s t).1 * t.2.1 ≤ n - sumT s ∧ (cutT n s t).1 ≤ t.1:=by
      unfold cutT
      dsimp only
      split
      · exact ⟨hq,by omega⟩
      · rename_i hn
        refine ⟨?_,Int.le_refl _⟩
        have:t.1 * t.2.1 ≤ (n - sumT s) / t.2.1 * t.2.1:=Int.mul_le_mul_of_nonneg_right (by omega) (by omega)
        omega
    have hcut:Fair (cutT n s t):=⟨⟨by omega,by have:=hf.cnt; omega⟩,hf.len,hf.air,hf.ste,hf.out,hf.yld,hf.twi,hf.sti,hf.use⟩
    have hsum:sumT [cutT n s t] = (cutT n s t).1 * t.2.1:=by
      show (cutT n s t).1 * (cutT n s t).2.1 + 0 = _
      rw [Int.add_zero]; rfl
    have hb:=mul_rng (a:=(cutT n s t).1) (b:=t.2.1) (A:=12) (B:=1600) (by omega) (by omega) (by omega) h2
    refine ⟨⟨?_,?_,?_,?_⟩,by rw [List.length_append]; simp⟩
    · intro u hu
      rcases List.mem_append.1 hu with hu | hu
      · exact h.fair u hu
      · rw [List.mem_singleton.1 hu]; exact hcut
    · rw [sumT_append,hsum]; omega
    · rw [sumT_append,hsum,List.length_append,List.length_singleton]
      have:=h.few
      omega
    · intro u hu
      rcases List.mem_append.1 hu with hu | hu
      · exact h.wet u hu
      · rw [List.mem_singleton.1 hu]
        intro m m0 m1
        have:=h3 m m0 m1
        exact this
  · rw [if_neg hc]
    exact ⟨h,by omega⟩
theorem strK_ok {l:List Int} {n:Int}:∀ (m:Nat) (k:Int) (s:List Tb),0 ≤ k → StrOk n s → StrOk n (strK l n m k s).1 ∧ (strK l n m k s).1.length ≤ s.length + m ∧ k ≤ (strK l n m k s).2 ∧ (strK l n m k s).2 ≤ k + 10 * m
  | 0,k,s,hk,h => ⟨h,by show s.length ≤ s.length + 0; omega,Int.le_refl _,by show k ≤ k + 10 * ((0:Nat):Int); omega⟩
  | m + 1,k,s,hk,h => by
    obtain ⟨_,_,_,_,h1,h2⟩:=tubeK_ok (l:=l) hk
    obtain ⟨h3,h4⟩:=addT_ok (l:=l) h hk
    obtain ⟨a,b,c,d⟩:=strK_ok m (tubeK l k).2 (addT n s (tubeK l k).1) (by omega) h3
    rw [strK_succ]
    exact ⟨a,by omega,by omega,by omega⟩
theorem lenT_str {n:Int} {s:List Tb} (h:StrOk n s) (h2:s.length ≤ 4):lenT s = sumT s ∧ (s ≠ [] → checkT s = 0):=by
  have hc:s ≠ [] → checkT s = 0:=by
    intro hn
    have:=h.few
    unfold checkT
    rw [if_neg (by simpa using hn),if_neg (by omega),if_neg (by rw [h.fair.any]; exact Bool.false_ne_true),if_neg (by omega)]
  refine ⟨?_,hc⟩
  unfold lenT
  by_cases hn:s = []
  · subst hn
    rw [if_neg (by decide)]; rfl
  · rw [if_pos (hc hn)]
def L_kStr0:Lay:={ slots:=[(0,.ptr 1 0),(1,.agg tPath)],boxes:=[(1,[.val tIs,.val tI])] }
def L_kStrL:Lay:={ slots:=[(0,.ptr 1 0),(4,.ptr 5049 0),(6,.val tI),(7,.ptr 8049 0),(8,.val tI)],boxes:=[(1,[.val tIs,.val tI]),(5049,[.val tTs]),(8049,[.row 78 tT])] }
def L_kStrL_0:Lay:={ slots:=[(4,.ptr 5049 0),(7,.ptr 8049 0)],boxes:=[(1,[.val tIs,.val tI]),(5049,[.val tTs]),(8049,[.row 78 tT])] }
def X_kStrL:Exit → St → Option Lay
  | .exit 0,_ => some L_kStrL_0
  | _,_ => none
abbrev C_kStrL:Code:=loopC (bodyOf Tryz.f9) 0
theorem B_kStrL (n m:Int) (l:List Int) (k:Int) (b4_0 s_0:List Tb):loopBodyA (P:=P) [c_kTube.gc,c_rTLength.gc] (lpOf []) [] 49 (usd noU (L_kStr0.ids ++ rowIds rowBase L_kStr0.shs)) (inner C_kStrL) L_kStrL X_kStrL (α:=Unit × Unit × Int × Unit × Int × List Int × Int × List Tb × List Tb × Unit) (fun x => x) (fun x => x) ((),(),n,(),m,l,k,b4_0,s_0,()) =
  Tree.cond (decide (m > (0:Int))) (.need ((0:Int) ≤ k ∧ k < (1000000000:Int)) (.need ((tubeK l k).fst.snd.fst ≠ (0:Int)) (.cond (decide (IntKind.i64.wrap (Int.tdiv (IntKind.i64.wrap (n - lenT s_0)) (tubeK l k).fst.snd.fst) < (tubeK l k).fst.fst)) (.cond (decide (IntKind.i64.wrap (Int.tdiv (IntKind.i64.wrap (n - lenT s_0)) (tubeK l k).fst.snd.fst) > (0:Int))) (.need ((List.length s_0 + List.length [(IntKind.i64.wrap (Int.tdiv (IntKind.i64.wrap (n - lenT s_0)) (tubeK l k).fst.snd.fst),(tubeK l k).fst.snd)]) * (72:Nat) ≤ (140737488355328:Nat)) (.leaf (Sum.inl ((),(),n,(),IntKind.i64.wrap (m - (1:Int)),l,(tubeK l k).snd,b4_0,s_0 ++ [(IntKind.i64.wrap (Int.tdiv (IntKind.i64.wrap (n - lenT s_0)) (tubeK l k).fst.snd.fst),(tubeK l k).fst.snd)],())))) (.leaf (Sum.inl ((),(),n,(),IntKind.i64.wrap (m - (1:Int)),l,(tubeK l k).snd,b4_0,s_0,())))) (.cond (decide ((tubeK l k).fst.fst > (0:Int))) (.need ((List.length s_0 + List.length [(tubeK l k).fst]) * (72:Nat) ≤ (140737488355328:Nat)) (.leaf (Sum.inl ((),(),n,(),IntKind.i64.wrap (m - (1:Int)),l,(tubeK l k).snd,b4_0,s_0 ++ [(tubeK l k).fst],())))) (.leaf (Sum.inl ((),(),n,(),IntKind.i64.wrap (m - (1:Int)),l,(tubeK l k).snd,b4_0,s_0,()))))))) (.leaf (Sum.inr (Exit.exit (0:Nat),Lay.st L_kStrL_0 (usd noU (Lay.ids L_kStr0 ++ rowIds rowBase (Lay.shs L_kStr0))) ((),(),l,k,b4_0,s_0,())))):=by kernel_rfl
def inv_kStrL:Unit × Unit × Int × Unit × Int × List Int × Int × List Tb × List Tb × Unit → Prop:=fun ((),(),n,(),m,l,k,b4_0,s_0,()) => 0 ≤ n ∧ n ≤ 1048576000 ∧ 0 ≤ m ∧ m ≤ 4 ∧ 0 ≤ k ∧ k + 10 * m ≤ 500000000 ∧ StrOk n s_0 ∧ (s_0.length:Int) + m ≤ 4
def O_kStrL:Unit × Unit × Int × Unit × Int × List Int × Int × List Tb × List Tb × Unit → Tree (Exit × St):=fun ((),(),n,(),m,l,k,b4_0,s_0,()) => (.leaf (.exit 0,L_kStrL_0.st (usd noU (L_kStr0.ids ++ rowIds rowBase L_kStr0.shs)) ((),(),l,((strK l n m.toNat k s_0).2),b4_0,((strK l n m.toNat k s_0).1),())))
def R_kStrL:LRun:=runOf 49 L_kStrL (fun x => x) (inv_kStrL) (O_kStrL)
theorem K_kStrL:LoopOk P [] 49 none (usd noU (L_kStr0.ids ++ rowIds rowBase L_kStr0.shs)) C_kStrL (R_kStrL):=by
  refine loop_of hm (cx:=[c_kTube.gc,c_rTLength.gc]) [] (xl:=X_kStrL) (α:=Unit × Unit × Int × Unit × Int × List Int × Int × List Tb × List Tb × Unit) (fun x => x) (fun ((),(),n,(),m,l,k,b4_0,s_0,()) => m.toNat) (fun _ => rfl) (by kernel_rfl) (by kernel_rfl) ?_ (by kernel_rfl) trivial ?_
  · intro e S L' h
    unfold X_kStrL at h
    split at h <;> first | (cases h; done) | (cases h; kernel_rfl) | (rcases bif_some h with h | h <;> cases h <;> kernel_rfl)
  · rintro ⟨⟨⟩,⟨⟩,n,⟨⟩,m,l,k,b4_0,s_0,⟨⟩⟩ hinv Q hQ
    refine hold_of_eq (B_kStrL n m l k b4_0 s_0) ?_
    obtain ⟨h0,h1,h2,h3,h4,h5,h6,h7⟩:=hinv
    obtain ⟨hf,t1,t2,t3,t4,t5⟩:=tubeK_ok (l:=l) h4
    obtain ⟨hL,_⟩:=lenT_str h6 (by omega)
    have hs:=(sumT_rng s_0 h6.fair).1
    have hle:=h6.le
    obtain ⟨h8,h9⟩:=addT_ok (l:=l) h6 h4
    have hQ' : Q (.exit 0,L_kStrL_0.st (usd noU (L_kStr0.ids ++ rowIds rowBase L_kStr0.shs)) ((),(),l,(strK l n m.toNat k s_0).2,b4_0,(strK l n m.toNat k s_0).1,())):=hQ
    refine ⟨fun c1 => ?_,fun c1 => ?_⟩
    · have c1:=of_decide_eq_true c1
      rw [show m.toNat = (m - 1).toNat + 1 by omega,strK_succ] at hQ'
      have hd:Int.tdiv (n - sumT s_0) (tubeK l k).1.2.1 = (n - sumT s_0) / (tubeK l k).1.2.1:=Int.tdiv_eq_ediv_of_nonneg (by omega)
      have hlen:=hf.len
      have hdr:=div_rng (x:=n - sumT s_0) (b:=(tubeK l k).1.2.1) (M:=1048576000) (by omega) (by decide) (by omega) (by omega)
      rw [hL,W_id (n:=n - sumT s_0) (by omega) (by omega),hd,W_id (n:=(n - sumT s_0) / (tubeK l k).1.2.1) (by omega) (by omega),W_id (n:=m - 1) (by omega) (by omega)]
      have fin:∀ u,addT n s_0 (tubeK l k).1 = u → roundB inv_kStrL (fun (_,_,n,_,m,_) => m.toNat) O_kStrL Q ((),(),n,(),m,l,k,b4_0,s_0,()) (Sum.inl ((),(),n,(),m - 1,l,(tubeK l k).2,b4_0,u,())):=by
        rintro u rfl
        exact ⟨⟨⟨h0,h1,by omega,by omega,by omega,by omega,h8,by omega⟩,by show (m - 1).toNat < m.toNat; omega⟩,hQ'⟩
      refine ⟨⟨h4,by omega⟩,by omega,fun c2 => ⟨fun c3 => ⟨?_,?_⟩,fun c3 => ?_⟩,fun c2 => ⟨fun c4 => ⟨?_,?_⟩,fun c4 => ?_⟩⟩
      all_goals simp only [decide_eq_true_eq,decide_eq_false_iff_not] at *
      · simp only [List.length_cons,List.length_nil]; omega
      · refine fin _ ?_
        unfold addT cutT
        dsimp only
        rw [if_pos c2,if_pos (by omega)]
      · refine fin _ ?_
        unfold addT cutT
        dsimp only
        rw [if_pos c2,if_neg (by omega)]
      · simp only [List.length_cons,List.length_nil]; omega
      · refine fin _ ?_
        unfold addT cutT
        dsimp only
        rw [if_neg c2,if_pos (by omega)]
      · exact absurd hf.cnt.1 (by omega)
    · have c1:=of_decide_eq_false c1
      rw [show m.toNat = 0 by omega] at hQ'
      exact hQ'
def L_kStr:Lay:={ slots:=[(0,.ptr 1 0),(1,.agg (.pair tV tVs))],boxes:=[(1,[.val tIs,.val tI])] }
theorem T_kStr (p_0 p_1 p_2:Int) (p_3:List V) (l:List Int) (k:Int):mTree (P:=P) [c_rLength.gc,c_Next.gc] (lpOf [(0,R_kStrL)]) Tryz.f9 L_kStr true ((),((p_0,(p_1,p_2)),p_3),l,k,()) =
  Tree.need ((0:Int) ≤ k ∧ k < (1099511627776:Int) ∧ (0:Int) < (4:Int)) (.need (inv_kStrL ((),(),lenS ((p_0,p_1,p_2),p_3),(),IntKind.i64.wrap ((1:Int) + nextS l k (4:Int)),l,k + (1:Int),[],[],())) (.leaf { res:=SV.tup [SV.agg [SV.own (nat_lit 100)],SV.bool (decide ((↑(List.length (strK l (lenS ((p_0,p_1,p_2),p_3)) (Int.toNat (IntKind.i64.wrap ((1:Int) + nextS l k (4:Int)))) (k + (1:Int)) []).fst):Int) > (0:Int)))],boxes:=[[SV.sl tI l,SV.int IntKind.i64 (strK l (lenS ((p_0,p_1,p_2),p_3)) (Int.toNat (IntKind.i64.wrap ((1:Int) + nextS l k (4:Int)))) (k + (1:Int)) []).snd]],news:=[Ob.row (78:TypeId) tT (strK l (lenS ((p_0,p_1,p_2),p_3)) (Int.toNat (IntKind.i64.wrap ((1:Int) + nextS l k (4:Int)))) (k + (1:Int)) []).fst] })):=by kernel_rfl
def c_kStr:MC P:=MC.of (α:=Unit × (V × List V) × List Int × Int × Unit) 9 L_kStr (fun x => x) (fun x => x) (fun _ => rfl)
  (fun x => some (0 ≤ x.2.2.2.1 ∧ x.2.2.2.1 ≤ 400000000))
  (fun x => ⟨.tup [.agg [.own 100],.bool (decide (((strK x.2.2.1 (lenS x.2.1) (1 + nextS x.2.2.1 x.2.2.2.1 4).toNat (x.2.2.2.1 + 1) []).1.length:Int) > 0))],[[.sl tI x.2.2.1,.int .i64 (strK x.2.2.1 (lenS x.2.1) (1 + nextS x.2.2.1 x.2.2.2.1 4).toNat (x.2.2.2.1 + 1) []).2]],[.row 78 tT (strK x.2.2.1 (lenS x.2.1) (1 + nextS x.2.2.1 x.2.2.2.1 4).toNat (x.2.2.2.1 + 1) []).1]⟩) (by kernel_rfl) (by kernel_rfl) (by kernel_rfl) (by
    rintro ⟨⟨⟩,⟨⟨p_0,⟨p_1,p_2⟩⟩,p_3⟩,l,k,⟨⟩⟩ hp
    refine m_of hm (own:=true) (by kernel_rfl) (by kernel_rfl) (by kernel_rfl) (T_kStr p_0 p_1 p_2 p_3 l k) ⟨K_kStrL,trivial⟩ ?_
    try dsimp only at hp
    try dsimp only
    obtain ⟨h0,h1⟩ : 0 ≤ k ∧ k ≤ 400000000:=hp
    have n0:=nextS_rng (l:=l) (k:=k) (n:=4) h0 (by decide)
    have hn:=lenS_le ((p_0,p_1,p_2),p_3)
    have hn0:0 ≤ lenS ((p_0,p_1,p_2),p_3):=lenS_nn _
    rw [W_id (n:=1 + nextS l k 4) (by omega) (by omega)]
    exact ⟨⟨h0,by omega,by decide⟩,⟨hn0,hn,by omega,by omega,by omega,by omega,⟨fun t ht => (by cases ht),hn0,by decide,fun t ht => (by cases ht)⟩,by show (0:Int) + (1 + nextS l k 4) ≤ 4; omega⟩,rfl⟩)
end
end Go.MP
