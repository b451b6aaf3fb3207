/- Houses in which elements have failed, and the cuts: the plain law of BarrierFails. -/
import Derived.Test.YtfhomgggbhjglaaGreatMdG
namespace Go.MB
open Go Go.Sx Go.Proofs
set_option linter.unusedVariables false
set_option linter.unusedSimpArgs false
noncomputable section
def failS:List Int → List E4 → List E4
  | [],els => els
  | x :: l,els => failS l (if 0 ≤ x ∧ x < els.length then els.set x.toNat (3,(els.getD x.toNat (0,0,0,0)).2.1,(els.getD x.toNat (0,0,0,0)).2.2.1,(els.getD x.toNat (0,0,0,0)).2.2.2) else els)
theorem failS_len:∀ (l:List Int) (els:List E4),(failS l els).length = els.length
  | [],_ => rfl
  | x :: l,els => by
    rw [failS,failS_len l]
    split
    · rw [List.length_set]
    · rfl
theorem failS_at:∀ (l:List Int) (els:List E4) (j:Nat),(failS l els)[j]? = els[j]?.map fun e => if (l.any fun x => x == (j:Int)) = true then (3,e.2.1,e.2.2.1,e.2.2.2) else e
  | [],els,j => by
    rw [failS]
    cases els[j]? <;> simp
  | x :: l,els,j => by
    rw [failS,failS_at l,List.any_cons]
    by_cases c:0 ≤ x ∧ x < els.length
    · rw [if_pos c,List.getElem?_set]
      by_cases e:x.toNat = j
      · subst e
        rw [if_pos rfl,if_pos (by omega),List.getD_eq_getElem?_getD,List.getElem?_eq_getElem (by omega),Option.getD_some,Option.map_some,Option.map_some]
        rw [show (x == ((x.toNat:Nat):Int)) = true by rw [beq_iff_eq]; omega,Bool.true_or,if_pos rfl]
        split <;> rfl
      · rw [if_neg e,show (x == (j:Int)) = false by rw [beq_eq_false_iff_ne]; omega,Bool.false_or]
    · rw [if_neg c]
      by_cases e:x = (j:Int)
      · rw [List.getElem?_eq_none (by omega)]; rfl
      · rw [show (x == (j:Int)) = false by rw [beq_eq_false_iff_ne]; exact e,Bool.false_or]
theorem elEs_iff:∀ {l:List E4},(∀ e ∈ l,elE e = 0) → elEs l = 0
  | [],_ => rfl
  | x :: r,h => by
    rw [elEs,if_neg (by rw [h x (List.mem_cons_self ..)]; decide)]
    exact elEs_iff fun e he => h e (List.mem_cons_of_mem _ he)
theorem elE_fail {e:E4} (h:elE e = 0):elE (3,e.2.1,e.2.2.1,e.2.2.2) = 0:=by
  unfold elE at *
  split at h
  · cases h
  split at h
  · cases h
  rename_i h1 h2
  rw [if_neg (show ¬ ((3:Int) < 0 ∨ (3:Int) > 3) by decide)]
  exact if_neg h2
theorem failS_house {els:List E4} {envs:List (List Int)} {need:Int} {l:List Int} (h:houseE (els,envs,need) = 0):houseE (failS l els,envs,need) = 0:=by
  have k:=houseE_ok h
  have h2:elEs (failS l els) = 0:=elEs_iff fun e he => by
    obtain ⟨j,hj⟩:=List.mem_iff_getElem?.1 he
    rw [failS_at] at hj
    cases c:els[j]? with
    | none => rw [c] at hj; cases hj
    | some x =>
      rw [c,Option.map_some] at hj
      have hx:=k.el x (List.mem_of_getElem? c)
      cases hj
      split
      · exact elE_fail hx
      · exact hx
  unfold houseE at *
  dsimp only at *
  rw [failS_len,h2]
  split at h
  · cases h
  split at h
  · cases h
  split at h
  · rename_i q; exact absurd h q
  split at h
  · rename_i q; exact absurd h q
  split at h
  · cases h
  rename_i h1 h2 h3 h4 h5
  rw [if_neg h1,if_neg h2,if_neg (by decide),if_neg h4,if_neg h5]
theorem failS_hOk {els:List E4} {envs:List (List Int)} {need:Int} {l:List Int} (h:hOk (els,envs,need)):hOk (failS l els,envs,need):=by
  obtain ⟨h1,h2,h3⟩:=h
  exact ⟨by show (failS l els).length ≤ _; rw [failS_len]; exact h1,h2,h3⟩
theorem fail_holds {els:List E4} {envs:List (List Int)} {need:Int} {l:List Int} {tick press:Int} {X:Nat} (h:houseE (els,envs,need) = 0) (hX:X < 2 ^ 10) (hr:∀ j:Nat,j < els.length → X.testBit j = l.any fun x => x == (j:Int)) :
    (prS (failS l els,envs,need) tick press).2 = hdM (els,envs,need) (wo (wkS (els,envs,need) tick press) X):=by
  have k:=houseE_ok h
  have k10:=k.e10
  dsimp only at k10
  have hW:=wkS_lt (els,envs,need) tick press
  have hb:=wkS_bit (els,envs,need) tick press
  have hN:2 ^ els.length ≤ 2 ^ 10:=Nat.pow_le_pow_right (by decide) k10
  dsimp only at hW
  generalize wkS (els,envs,need) tick press = A at *
  have hw:=wo_lt (n:=els.length) (by omega) hW (show X < 2 ^ 64 by omega)
  unfold prS
  rw [if_neg (by rw [failS_house h]; decide)]
  dsimp only
  rw [hdM_eq hw]
  unfold holdsS hdN proofF
  dsimp only
  have e:soundF (failS l els,envs,need) tick press = fl els.length (wo A X):=by
    refine ext_getD (by rw [soundF_len,fl_len]; exact failS_len l els) fun j => ?_
    rw [fl_at hw,wo_bit (by omega) (by omega),hb,soundF_at,soundF_at]
    dsimp only
    rw [failS_at]
    cases c:els[j]? with
    | none => rfl
    | some e =>
      have hj:=(List.getElem?_eq_some_iff.1 c).1
      rw [hr j hj,Option.map_some]
      cases d:l.any fun x => x == (j:Int) with
      | true =>
        rw [if_pos rfl,Bool.not_true,Bool.and_false]
        rfl
      | false =>
        rw [if_neg (by decide),Bool.not_false,Bool.and_true]
  rw [e]
theorem lsI_any {s j:Nat} (hj:j < 10):((lsI s).any fun x => x == (j:Int)) = s.testBit j:=by
  rw [Bool.eq_iff_iff,List.any_eq_true]
  constructor
  · rintro ⟨x,hx,e⟩
    have:=(mem_lsI.1 hx).2.2
    rw [beq_iff_eq] at e
    rw [e,Int.toNat_natCast] at this
    exact this
  · intro h
    exact ⟨(j:Int),mem_lsI.2 ⟨by omega,by omega,by rw [Int.toNat_natCast]; exact h⟩,by simp⟩
theorem lsI_nodup (s:Nat):(lsI s).Nodup:=by
  unfold lsI List.Nodup
  rw [List.pairwise_map]
  refine List.Pairwise.imp ?_ (List.Pairwise.filter _ List.nodup_range)
  intro a b h e
  exact h (by omega)
theorem less_any {s j k:Nat} (hs:s < 2 ^ 10) (hk:k < (lsI s).length) (hj:j < 10) :
    (((lsI s).take k ++ (lsI s).drop (k + 1)).any fun x => x == (j:Int)) = (er s ((lsI s).getD k 0).toNat).testBit j:=by
  have hx:(lsI s).getD k 0 ∈ lsI s:=getD_mem hk
  obtain ⟨x0,x1,x2⟩:=mem_lsI.1 hx
  have hsp:lsI s = (lsI s).take k ++ (lsI s).getD k 0 :: (lsI s).drop (k + 1):=by
    rw [List.getD_eq_getElem?_getD,List.getElem?_eq_getElem hk,Option.getD_some,← List.drop_eq_getElem_cons hk,List.take_append_drop]
  have hnd:=lsI_nodup s
  rw [hsp,List.nodup_append] at hnd
  obtain ⟨_,hn2,hn3⟩:=hnd
  have hn4:=(List.nodup_cons.1 hn2).1
  rw [er_bit hs (by omega),← lsI_any hj]
  generalize (lsI s).getD k 0 = x at *
  rw [Bool.eq_iff_iff]
  simp only [List.any_eq_true,Bool.and_eq_true,Bool.not_eq_true',decide_eq_false_iff_not,beq_iff_eq]
  constructor
  · rintro ⟨y,hy,rfl⟩
    refine ⟨⟨_,?_,rfl⟩,fun e => ?_⟩
    · rw [hsp]
      rcases List.mem_append.1 hy with q | q
      · exact List.mem_append_left _ q
      · exact List.mem_append_right _ (List.mem_cons_of_mem _ q)
    · have e:x = (j:Int):=by omega
      rcases List.mem_append.1 hy with q | q
      · exact hn3 _ q _ (List.mem_cons_self ..) e.symm
      · rw [e] at hn4; exact hn4 q
  · rintro ⟨⟨y,hy,rfl⟩,hne⟩
    refine ⟨_,?_,rfl⟩
    rw [hsp] at hy
    rcases List.mem_append.1 hy with q | q
    · exact List.mem_append_left _ q
    · rcases List.mem_cons.1 q with q | q
      · exact absurd (by omega) hne
      · exact List.mem_append_right _ q
theorem cutsS_ok {h:Hs} {tick press:Int} (hb:(prS h tick press).2 = true):CutsOk (wkS h tick press) (hdM h) (cutsS h tick press) ∧ houseE h = 0 ∧ holdsS h tick press = true:=by
  obtain ⟨h1,h2⟩:=prS_two.1 hb
  have k:=houseE_ok h1
  unfold cutsS
  rw [if_neg (fun q => by rcases q with q | q; exact q h1; rw [h2] at q; cases q)]
  exact ⟨ctS_ok k.e10 (wkS_lt h tick press) (hdM_mono (by have:=k.nd; omega)) (by rw [hdM_wk]; exact h2),h1,h2⟩
theorem cutsS_none {h:Hs} {tick press:Int} (hb:(prS h tick press).2 = false):cutsS h tick press = []:=by
  unfold cutsS
  refine if_pos ?_
  by_cases c:houseE h = 0
  · refine .inr ?_
    cases d:holdsS h tick press with
    | false => rfl
    | true => rw [prS_two.2 ⟨c,d⟩] at hb; cases hb
  · exact .inl c
def hitS (failed:List Int) (c:List Int):Bool:=c.all fun x => failed.any fun y => y == x
theorem fails_ok {els:List E4} {envs:List (List Int)} {need:Int} {tick press:Int} (hb:(prS (els,envs,need) tick press).2 = true) {failed:List Int} (hf:∀ x ∈ failed,0 ≤ x ∧ x < els.length) :
    (prS (failS failed els,envs,need) tick press).2 = !((cutsS (els,envs,need) tick press).any (hitS failed)):=by
  obtain ⟨hc,h1,h2⟩:=cutsS_ok hb
  have k:=houseE_ok h1
  have k10:=k.e10
  have hn:=k.nd
  dsimp only at k10 hn
  have hN:2 ^ els.length ≤ 2 ^ 10:=Nat.pow_le_pow_right (by decide) k10
  have hW:=wkS_lt (els,envs,need) tick press
  dsimp only at hW
  have hM:=hdM_mono (h:=(els,envs,need)) (by show 0 ≤ need; omega)
  have hX:ofN failed 0 < 2 ^ 10:=ofN_lt (by decide) (by decide) fun i hi => by have:=hf i hi; omega
  have hbit:∀ j:Nat,(ofN failed 0).testBit j = failed.any fun x => x == (j:Int):=fun j => by
    rw [ofN_bit,Nat.zero_testBit,Bool.false_or,Bool.eq_iff_iff,List.any_eq_true,List.any_eq_true]
    constructor
    · rintro ⟨x,hx,e⟩
      have:=hf x hx
      rw [beq_iff_eq] at e
      exact ⟨x,hx,by rw [beq_iff_eq]; omega⟩
    · rintro ⟨x,hx,e⟩
      rw [beq_iff_eq] at e
      exact ⟨x,hx,by rw [beq_iff_eq]; omega⟩
  rw [fail_holds h1 hX fun j _ => hbit j]
  have hsub:∀ s,s < 2 ^ 10 → (hitS failed (lsI s) = true ↔ Sb s (ofN failed 0)):=fun s hs => by
    unfold hitS
    rw [List.all_eq_true]
    constructor
    · intro q j hj
      have:=q (j:Int) (mem_lsI.2 ⟨by omega,by have:=lt_bit hs hj; omega,by rw [Int.toNat_natCast]; exact hj⟩)
      rw [hbit]; exact this
    · intro q x hx
      obtain ⟨x0,x1,x2⟩:=mem_lsI.1 hx
      have:=q _ x2
      rw [hbit,show ((x.toNat:Nat):Int) = x by omega] at this
      exact this
  generalize hA:wkS (els,envs,need) tick press = A at *
  cases c:(cutsS (els,envs,need) tick press).any (hitS failed) with
  | true =>
    obtain ⟨x,hx,hh⟩:=List.any_eq_true.1 c
    obtain ⟨s,hs,rfl⟩:=(hc.mem x).1 hx
    have hs10:s < 2 ^ 10:=by have:=hs.lt hW; omega
    have hss:=(hsub s hs10).1 hh
    cases d:hdM (els,envs,need) (wo A (ofN failed 0)) with
    | false => rfl
    | true =>
      have:=hM _ _ (wo_anti (by omega) (by omega) (by omega) hss) d
      rw [hs.cut] at this
      cases this
  | false =>
    cases d:hdM (els,envs,need) (wo A (ofN failed 0)) with
    | true => rfl
    | false =>
      have e:wo A (A &&& ofN failed 0) = wo A (ofN failed 0):=Nat.eq_of_testBit_eq fun j => by
        have hl:A &&& ofN failed 0 < 2 ^ 64:=Nat.lt_of_le_of_lt Nat.and_le_left (by omega)
        rw [wo_bit (by omega) hl,wo_bit (by omega) (by omega),Nat.testBit_and]
        cases A.testBit j <;> simp
      have hsubA:Sb (A &&& ofN failed 0) A:=fun j hj => by
        rw [Nat.testBit_and,Bool.and_eq_true] at hj
        exact hj.1
      obtain ⟨s,hs,hss⟩:=min_ex (hd:=hdM (els,envs,need)) (show A < 2 ^ 10 by omega) (cnt (A &&& ofN failed 0)) (Nat.le_refl _) hsubA (by rw [e]; exact d)
      have hs10:s < 2 ^ 10:=by have:=hs.lt hW; omega
      have h3:Sb s (ofN failed 0):=fun j hj => by
        have:=hss j hj
        rw [Nat.testBit_and,Bool.and_eq_true] at this
        exact this.2
      have h4:=List.any_eq_false.1 c (lsI s) ((hc.mem _).2 ⟨s,hs,rfl⟩)
      exact absurd ((hsub s hs10).2 h3) h4
theorem cut_breaks {els:List E4} {envs:List (List Int)} {need:Int} {tick press:Int} (hb:(prS (els,envs,need) tick press).2 = true) {c:List Int} (hc:c ∈ cutsS (els,envs,need) tick press):(prS (failS c els,envs,need) tick press).2 = false:=by
  obtain ⟨hk,h1,h2⟩:=cutsS_ok hb
  have k10:=(houseE_ok h1).e10
  dsimp only at k10
  have hN:2 ^ els.length ≤ 2 ^ 10:=Nat.pow_le_pow_right (by decide) k10
  have hW:=wkS_lt (els,envs,need) tick press
  dsimp only at hW
  obtain ⟨s,hs,rfl⟩:=(hk.mem c).1 hc
  have hs10:s < 2 ^ 10:=by have:=hs.lt hW; omega
  rw [fail_holds h1 hs10 fun j hj => (lsI_any (by omega)).symm]
  exact hs.cut
theorem less_holds {els:List E4} {envs:List (List Int)} {need:Int} {tick press:Int} (hb:(prS (els,envs,need) tick press).2 = true) {c:List Int} (hc:c ∈ cutsS (els,envs,need) tick press) {k:Nat} (hk:k < c.length) :
    (prS (failS (c.take k ++ c.drop (k + 1)) els,envs,need) tick press).2 = true:=by
  obtain ⟨ho,h1,h2⟩:=cutsS_ok hb
  have k10:=(houseE_ok h1).e10
  dsimp only at k10
  have hN:2 ^ els.length ≤ 2 ^ 10:=Nat.pow_le_pow_right (by decide) k10
  have hW:=wkS_lt (els,envs,need) tick press
  dsimp only at hW
  obtain ⟨s,hs,rfl⟩:=(ho.mem c).1 hc
  have hs10:s < 2 ^ 10:=by have:=hs.lt hW; omega
  obtain ⟨x0,x1,x2⟩:=mem_lsI.1 (getD_mem (d:=(0:Int)) hk)
  have hi:((lsI s).getD k 0).toNat < 10:=by omega
  rw [fail_holds h1 ((er_sub hs10 hi).lt hs10) fun j hj => (less_any hs10 hk (by omega)).symm]
  exact hs.min _ (er_sub hs10 hi) (er_ne hs10 x2)
def fdS (set:Int):Nat → Int → List Int
  | 0,_ => []
  | m + 1,i => if shrI .i64 set i % 2 = 1 then i :: fdS set m (i + 1) else fdS set m (i + 1)
theorem fdS_rng (set:Int):∀ (m:Nat) (i:Int),∀ x ∈ fdS set m i,i ≤ x ∧ x < i + m
  | 0,i,x,h => by cases h
  | m + 1,i,x,h => by
    rw [fdS] at h
    have ih:=fdS_rng set m (i + 1) x
    split at h
    · rcases List.mem_cons.1 h with rfl | h
      · omega
      · have:=ih h; omega
    · have:=ih h; omega
theorem fdS_len (set:Int):∀ (m:Nat) (i:Int),(fdS set m i).length ≤ m
  | 0,i => Nat.le_refl _
  | m + 1,i => by
    have ih:=fdS_len set m (i + 1)
    rw [fdS]
    split
    · rw [List.length_cons]; omega
    · omega
end
end Go.MB
