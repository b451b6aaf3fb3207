/- The rule: what the program's exported functions say of a house. -/
import Derived.Test.YtfhomgggbhjglaaMbC
namespace Go.MB
open Go Go.Sx Go.Proofs
set_option linter.unusedVariables false
set_option linter.unusedSimpArgs false
noncomputable section
theorem envB_ok:∀ {l:List Int} {n last:Int},envB n last l = false → (l = [] ∨ (l.length:Int) ≤ n - 1 - last) ∧ ∀ i ∈ l,last < i ∧ i < n
  | [],n,last,_ => ⟨.inl rfl,fun i hi => (by cases hi)⟩
  | x :: r,n,last,h => by
    rw [envB,Bool.or_eq_false_iff,Bool.or_eq_false_iff] at h
    obtain ⟨h1,h2,h3⟩:=h
    have h1:=of_decide_eq_false h1
    have h2:=of_decide_eq_false h2
    obtain ⟨i1,i2⟩:=envB_ok h3
    refine ⟨.inr ?_,fun i hi => ?_⟩
    · rw [List.length_cons]
      rcases i1 with rfl | i1
      · simp; omega
      · omega
    · rcases List.mem_cons.1 hi with rfl | hi
      · omega
      · have:=i2 i hi; omega
theorem envEs_ok {n:Int}:∀ {l:List (List Int)},envEs n l = 0 → ∀ q ∈ l,envE n q = 0
  | [],_,q,hq => by cases hq
  | x :: r,h,q,hq => by
    rw [envEs] at h
    split at h
    · rename_i h1; exact absurd h h1
    · rename_i h1
      rcases List.mem_cons.1 hq with rfl | hq
      · simpa using h1
      · exact envEs_ok h q hq
theorem elEs_ok:∀ {l:List E4},elEs l = 0 → ∀ e ∈ l,elE e = 0
  | [],_,q,hq => by cases hq
  | x :: r,h,q,hq => by
    rw [elEs] at h
    split at h
    · rename_i h1; exact absurd h h1
    · rename_i h1
      rcases List.mem_cons.1 hq with rfl | hq
      · simpa using h1
      · exact elEs_ok h q hq
structure HOk (h:Hs):Prop where
  e1:1 ≤ h.1.length
  e10:h.1.length ≤ 10
  v8:h.2.1.length ≤ 8
  el:∀ e ∈ h.1,elE e = 0
  ev:∀ l ∈ h.2.1,l ≠ [] ∧ l.length ≤ 10 ∧ ∀ i ∈ l,0 ≤ i ∧ i < h.1.length
  nd:1 ≤ h.2.2 ∧ h.2.2 ≤ 3
theorem houseE_ok {h:Hs} (e:houseE h = 0):HOk h:=by
  unfold houseE at e
  split at e
  · cases e
  split at e
  · cases e
  split at e
  · rename_i h1; exact absurd e h1
  split at e
  · rename_i h1; exact absurd e h1
  split at e
  · cases e
  rename_i h1 h2 h3 h4 h5
  refine ⟨by omega,by omega,by omega,elEs_ok (by simpa using h3),fun l hl => ?_,by omega⟩
  have:=envEs_ok (by simpa using h4) l hl
  unfold envE at this
  split at this
  · cases this
  split at this
  · cases this
  rename_i k1 k2
  have k2:envB h.1.length (-1) l = false:=by simpa using k2
  obtain ⟨j1,j2⟩:=envB_ok k2
  refine ⟨fun z => k1 (by rw [z]; rfl),?_,fun i hi => by have:=j2 i hi; omega⟩
  rcases j1 with rfl | j1
  · simp
  · omega
theorem HOk.idx {h:Hs} (k:HOk h):∀ q ∈ h.2.1,idxOk 10 q:=fun q hq => by
  obtain ⟨_,h2,h3⟩:=k.ev q hq
  exact ⟨by omega,fun i hi => by have:=h3 i hi; have:=k.e10; omega⟩
theorem HOk.lists {h:Hs} (k:HOk h):hOk h:=⟨by have:=k.e10; omega,by have:=k.v8; omega,fun q hq => (k.idx q hq).1⟩
theorem worksN_lt (tick press:Int) {h:Hs} (k:HOk h):worksN tick press h.1 0 0 < 1024:=by
  refine lt_of_bits (n:=10) fun j hj => ?_
  rw [worksN_bit,Nat.zero_testBit,Bool.false_or,Nat.sub_zero,List.getD_eq_getElem?_getD,List.getElem?_eq_none (by rw [List.length_map]; have:=k.e10; omega)]
  simp
theorem prfU_F {h:Hs} (k:HOk h) (tick press:Int):prfU h.2.1 (standN (worksN tick press h.1 0 0) h.2.1 0) 0 [] h.2.2.toNat = proofF h (soundF h tick press):=by
  rw [standN_eq (works_rel h tick press),prfU_eq (fun l hl i hi => ((k.ev l hl).2.2 i hi).1) _ _ _ _ (relU_nil _)]
  rfl
theorem prfU_some {h:Hs} (k:HOk h) {up:List Int} {u:Nat}:(!((prfU h.2.1 up u [] h.2.2.toNat).getD []).isEmpty) = (prfU h.2.1 up u [] h.2.2.toNat).isSome:=by
  cases hr:prfU h.2.1 up u [] h.2.2.toNat with
  | none => rfl
  | some x =>
    have:=prfU_len hr
    have h1:=k.nd
    cases x with
    | nil => simp at this; omega
    | cons y z => rfl
theorem T_holds (h_0:List (Int × V)) (h_1:List (List Int)) (h_2 tick press:Int):fnTree (P:=P) [c_works.gc,c_proofU.gc] (lpOf []) Try.f51 (encL 0 [.agg (.pair (.sl (.pair tI tV)) (.pair (.sl tIs) tI)),.val tI,.val tI] ((h_0,(h_1,h_2)),tick,press,())) =
  Tree.need (List.length h_0 ≤ (10:Nat)) (.need (List.length h_1 ≤ (1000:Nat) ∧ (∀ (q:List Int),q ∈ h_1 → idxOk (10:Int) q) ∧ ((0:Int) ≤ (↑(worksN tick press h_0 (0:Nat) (0:Nat)):Int) ∧ (↑(worksN tick press h_0 (0:Nat) (0:Nat)):Int) < (1024:Int)) ∧ (1:Int) ≤ h_2 ∧ h_2 ≤ (3:Int)) (.leaf (SV.bool !List.isEmpty (Option.getD (prfU h_1 (standN (Int.toNat (↑(worksN tick press h_0 (0:Nat) (0:Nat)):Int)) h_1 (0:Int)) (0:Nat) [] (Int.toNat h_2)) [])))):=by kernel_rfl
def c_holds:PC P:=PC.of (α:=(List (Int × V) × (List (List Int) × Int)) × Int × Int × Unit) 51 [.agg (.pair (.sl (.pair tI tV)) (.pair (.sl tIs) tI)),.val tI,.val tI] (fun x => x) (fun x => x) (fun _ => rfl)
  (fun x => some (houseE x.1 = 0))
  (fun x => .bool (holdsS x.1 x.2.1 x.2.2.1)) (by kernel_rfl) (by
    rintro ⟨⟨h_0,⟨h_1,h_2⟩⟩,tick,press,⟨⟩⟩ hp
    refine fn_of hm (by kernel_rfl) (by kernel_rfl) (T_holds h_0 h_1 h_2 tick press) trivial ?_
    try dsimp only at hp
    try dsimp only
    have k:=houseE_ok (h:=(h_0,(h_1,h_2))) hp
    have w:=worksN_lt tick press k
    have e:=prfU_F k tick press
    have s:=prfU_some k (up:=standN (worksN tick press h_0 0 0) h_1 0) (u:=0)
    dsimp only at e s w
    have k1:=k.e10
    have k2:=k.v8
    have k3:=k.nd
    dsimp only at k1 k2 k3
    refine ⟨k1,⟨by omega,k.idx,⟨by omega,by omega⟩,k3.1,k3.2⟩,?_⟩
    refine congrArg SV.bool ?_
    rw [Int.toNat_natCast,s,e]
    rfl)
def prS (h:Hs) (tick press:Int):List Int × Bool:=if houseE h ≠ 0 then ([],false) else ((proofF h (soundF h tick press)).getD [],holdsS h tick press)
theorem T_Proof (h_0:List (Int × V)) (h_1:List (List Int)) (h_2 tick press:Int):fnTree (P:=P) [c_House.gc,c_works.gc,c_proofU.gc] (lpOf []) Try.f22 (encL 0 [.agg (.pair (.sl (.pair tI tV)) (.pair (.sl tIs) tI)),.val tI,.val tI] ((h_0,(h_1,h_2)),tick,press,())) =
  Tree.need (hOk (h_0,h_1,h_2)) (.cond (houseE (h_0,h_1,h_2) != (0:Int)) (.leaf (SV.tup [SV.nils,SV.bool false])) (.need (List.length h_0 ≤ (10:Nat)) (.need (List.length h_1 ≤ (1000:Nat) ∧ (∀ (q:List Int),q ∈ h_1 → idxOk (10:Int) q) ∧ ((0:Int) ≤ (↑(worksN tick press h_0 (0:Nat) (0:Nat)):Int) ∧ (↑(worksN tick press h_0 (0:Nat) (0:Nat)):Int) < (1024:Int)) ∧ (1:Int) ≤ h_2 ∧ h_2 ≤ (3:Int)) (.leaf (SV.tup [SV.osl (Ty.int IntKind.i64) (Option.getD (prfU h_1 (standN (Int.toNat (↑(worksN tick press h_0 (0:Nat) (0:Nat)):Int)) h_1 (0:Int)) (0:Nat) [] (Int.toNat h_2)) []),SV.bool !List.isEmpty (Option.getD (prfU h_1 (standN (Int.toNat (↑(worksN tick press h_0 (0:Nat) (0:Nat)):Int)) h_1 (0:Int)) (0:Nat) [] (Int.toNat h_2)) [])]))))):=by kernel_rfl
def c_Proof:PC P:=PC.of (α:=(List (Int × V) × (List (List Int) × Int)) × Int × Int × Unit) 22 [.agg (.pair (.sl (.pair tI tV)) (.pair (.sl tIs) tI)),.val tI,.val tI] (fun x => x) (fun x => x) (fun _ => rfl)
  (fun x => some (hOk x.1))
  (fun x => .tup [.sl tI (prS x.1 x.2.1 x.2.2.1).1,.bool (prS x.1 x.2.1 x.2.2.1).2]) (by kernel_rfl) (by
    rintro ⟨⟨h_0,⟨h_1,h_2⟩⟩,tick,press,⟨⟩⟩ hp
    refine fn_le hm (by kernel_rfl) (by kernel_rfl) (T_Proof h_0 h_1 h_2 tick press) trivial (by kernel_rfl) ?_
    try dsimp only at hp
    try dsimp only
    have hp' : hOk (h_0,(h_1,h_2)):=hp
    show Tree.holds (fun s => LeS s (SV.tup [.sl tI (prS (h_0,(h_1,h_2)) tick press).1,.bool (prS (h_0,(h_1,h_2)) tick press).2])) _
    unfold prS
    refine ⟨hp',fun c1 => ?_,fun c1 => ?_⟩
    · rw [if_pos (by simpa using c1)]; exact ⟨rfl,rfl,trivial⟩
    have c1:houseE (h_0,(h_1,h_2)) = 0:=by simpa using c1
    rw [if_neg (fun z => z c1)]
    have k:=houseE_ok c1
    have w:=worksN_lt tick press k
    have e:=prfU_F k tick press
    have s:=prfU_some k (up:=standN (worksN tick press h_0 0 0) h_1 0) (u:=0)
    dsimp only at e s w
    have k1:=k.e10
    have k2:=k.v8
    have k3:=k.nd
    dsimp only at k1 k2 k3
    refine ⟨k1,⟨by omega,k.idx,⟨by omega,by omega⟩,k3.1,k3.2⟩,?_⟩
    rw [Int.toNat_natCast,s,e]
    exact ⟨rfl,rfl,trivial⟩)
end
end Go.MB
