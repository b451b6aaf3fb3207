/- A copy of a site lies in new memory: the loop over the envelopes. -/
import Derived.Test.YtfhomgggbhjglaaMbAf
namespace Go.MB
open Go Go.Sx Go.Proofs
set_option linter.unusedVariables false
set_option linter.unusedSimpArgs false
noncomputable section
structure CpC where
  N:Nat
  I:Nat → Prop
  b1:Nat
  b2:Nat
  b0:Nat
  w1:World
  vs:List (List Int)
  xs:List Value
  cap:Nat
  t:Int
  c:Int
  h:Int
  o:Int
  p:Int
  n:Int
  k:Int
  ev:Value
  pv:Value
  env:Value
abbrev CpC.vals (C:CpC):List Value:=[.int .i64 C.t,.int .i64 C.c,.int .i64 C.h,.int .i64 C.o,.int .i64 C.p,C.ev,C.env,.int .i64 C.n,C.pv,.int .i64 C.k]
structure CpC.Ok (C:CpC):Prop where
  N:C.N ≤ C.w1.heap.size
  I:∀ b,C.I b → b < C.w1.heap.size
  i1:¬ C.I C.b1
  i0:¬ C.I C.b0
  ne:C.b1 ≠ C.b0
  l1:C.b1 < C.w1.heap.size
  l0:C.vs ≠ [] → C.b0 < C.w1.heap.size
  e0:C.vs ≠ [] → C.env = .slice (some ⟨C.b0,0,none⟩) C.vs.length C.cap
  es : ∃ a n c,C.env = .slice a n c
  xs:Flat C.I C.w1 tIs C.vs C.xs
  cap:C.vs.length ≤ C.cap
  mx:C.cap ≤ maxLen
  ev : ∃ a n c,C.ev = .slice a n c
  pv : ∃ a n c,C.pv = .slice a n c
  len:C.vs.length ≤ 1000
  all:∀ q ∈ C.vs,q.length ≤ 1000
def CpC.Fr (C:CpC) (w:World) (b:Nat):Prop:=C.w1.heap.size ≤ b ∧ b < w.heap.size ∧ w.heap[b]? ≠ some (.deferred (some []))
structure CpC.At (C:CpC) (i:Nat) (a:Act) (w:World):Prop where
  size:a.tmps.size = 41
  marks:MarksAt C.N w C.I a.defers
  t1:a.tmps.getD 1 undef = .pointer (some ⟨C.b1,0,none⟩)
  t2:a.tmps.getD 2 undef = .pointer (some ⟨C.b2,0,none⟩)
  t23:a.tmps.getD 23 undef = .int .i64 C.vs.length
  t24:a.tmps.getD 24 undef = .int .i64 i
  frame:Frm C.w1 (fun b => b = C.b1 ∨ b = C.b0) w
  box : ∃ ty,w.heap[C.b1]? = some (.cells C.vals.toArray ty (0,0))
  row:C.vs ≠ [] → ∃ cur us,w.heap[C.b0]? = some (.cells cur 22 (0,0)) ∧ cur.size = C.cap ∧ cur.toList.take C.vs.length = us ∧ (∀ j,i ≤ j → us[j]? = C.xs[j]?) ∧
    ∀ (j:Nat) (d:List Int) (u:Value),j < i → C.vs[j]? = some d → us[j]? = some u → DRep (C.Fr w) w tIs d [u]
def isEx:SV → Bool
  | .int _ _ => true
  | .bool _ => true
  | .own _ => true
  | .nils => true
  | _ => false
def exV (E:En):SV → Value
  | .int k n => .int k n
  | .bool b => .bool b
  | .own k => E.sv k
  | .nils => .slice none 0 0
  | _ => undef
theorem ex_rep {E:En} {U:Nat → Bool} {w:World} {s:SV} {v:Value} (h:isEx s = true) (hr:Rep E U w s v):v = exV E s:=by
  cases s <;> first | (cases h; done) | (unfold Rep at hr; first | exact hr | exact hr.2.1)
theorem ex_repL {E:En} {U:Nat → Bool} {w:World}:∀ {cs:List SV} {vs:List Value},cs.all isEx = true → RepL E U w cs vs → vs = cs.map (exV E)
  | [],_,_,hr => by unfold RepL at hr; exact hr
  | c :: cs,_,h,hr => by
    simp only [List.all_cons,Bool.and_eq_true] at h
    unfold RepL at hr
    obtain ⟨v,r,rfl,h1,h2⟩:=hr
    rw [List.map_cons,ex_rep h.1 h1,ex_repL h.2 h2]
theorem loopsCp (n:Nat) (u0:Nat → Bool) (cur:Nat) (c:Code):LoopsOk P [] n none u0 (fun _ => none) cur c:=loopsOk_none _ _
theorem cp_exit {C:CpC} (hC:C.Ok) {a:Act} {w:World} (h:C.At C.vs.length a w):rCopyB.wpIn (FR none) 0 P (fun e a' w' => e = .exit 0 ∧ C.At C.vs.length a' w') a w:=by
  have hlt:∀ b,C.I b → b < w.heap.size:=fun b hb => Nat.lt_of_lt_of_le (hC.I b hb) h.frame.size
  let E:En:=⟨fun k => bif Nat.beq k 2041 then C.b1 else C.b2,fun _ => undef,C.I,fun _ _ => default⟩
  have hsat:=stOf_sat (n:=41) (M:=fun _ => False) (E:=E) (ts:=[(1,.ptr 2041 0),(2,.ptr 3041 0),(23,.int .i64 C.vs.length),(24,.int .i64 C.vs.length)]) (hs:=[]) (us:=[2041,3041]) h.size rfl
    (by
      intro p hp
      simp only [List.mem_cons,List.not_mem_nil,or_false] at hp
      rcases hp with rfl | rfl | rfl | rfl
      · unfold Rep; exact ⟨rfl,h.t1⟩
      · unfold Rep; exact ⟨rfl,h.t2⟩
      · unfold Rep; exact h.t23
      · unfold Rep; exact h.t24)
    (fun k o hk => by cases hk) (fun _ _ _ _ hj => by cases hj) (fun _ _ hk => by cases hk) hlt
  refine execC_ok hm (r0:=none) (u0:=apU noU [2041,3041]) (cx:=[]) (lp:=fun _ => none) (ys:=[]) (Q:=fun x => x = (.exit 0,[.ptr 2041 0,.ptr 3041 0,.int .i64 C.vs.length,.int .i64 C.vs.length],[],[]))
    (B:=⟨w,fun _ => False,E,apU noU [2041,3041],41,a.defers⟩) (fun k hk => hk) (fun h hh => by cases hh) rCopyB 0 (cpX C.vs.length C.vs.length) (fun _ => none) (fun e S _ => obs [1,2,23,24] [] [] e S) _ (loopsCp _ _ _ _) (kInv_none _ _) ?_ ?_ a w ⟨E,hsat⟩
  · rw [T_cpX]
    refine ⟨fun d => ?_,fun _ => rfl⟩
    exact absurd (of_decide_eq_true d) (Int.lt_irrefl _)
  · intro e S' K' a' w' _ hs' hk
    have hq:=obs_holds hk
    injection hq with he hq
    injection hq with ht hq
    simp only [List.map_cons,List.map_nil,List.cons.injEq,and_true] at ht
    obtain ⟨r1,r2,r3,r4⟩:=ht
    obtain ⟨E',hsE⟩:=hs'
    refine ⟨he,?_⟩
    have hU:∀ k,k ∈ [2041,3041] → (apU noU [2041,3041]) k = true:=fun k hk => inL_iff.2 hk ▸ rfl
    have fr:=hsE.heap.frame
    have x1:=hsE.tmps 1 (show 1 < 41 by decide)
    have x2:=hsE.tmps 2 (show 2 < 41 by decide)
    have x3:=hsE.tmps 23 (show 23 < 41 by decide)
    have x4:=hsE.tmps 24 (show 24 < 41 by decide)
    rw [r1] at x1
    rw [r2] at x2
    rw [r3] at x3
    rw [r4] at x4
    unfold Rep at x1 x2 x3 x4
    have e1:E'.ρ 2041 = C.b1:=hsE.le.rho 2041 rfl
    have e2:E'.ρ 3041 = C.b2:=hsE.le.rho 3041 rfl
    have hkeep:∀ b,b < w.heap.size → w'.heap[b]? = w.heap[b]?:=fun b hb => fr.block b hb fun x => x
    have hm':=MarksAt.step (N:=C.N) hsE (Nat.le_trans hC.N h.frame.size) h.marks (fun b hb => hb.elim)
    refine ⟨hsE.size,hm'.keep (fun _ _ => rfl) (fun b _ hb => hsE.le.imm b hb),by rw [x1.2,e1],by rw [x2.2,e2],x3,x4,?_,?_,?_⟩
    · exact ⟨fr.os.trans h.frame.os,fr.tape.trans h.frame.tape,fr.output.trans h.frame.output,Nat.le_trans h.frame.size fr.size,Nat.le_trans h.frame.drawn fr.drawn,fun b hb hM => (hkeep b (Nat.lt_of_lt_of_le hb h.frame.size)).trans (h.frame.block b hb hM)⟩
    · rw [hkeep _ (Nat.lt_of_lt_of_le hC.l1 h.frame.size)]; exact h.box
    · intro hne
      obtain ⟨cur,us,g1,g2,g3,g4,g5⟩:=h.row hne
      refine ⟨cur,us,by rw [hkeep _ (Nat.lt_of_lt_of_le (hC.l0 hne) h.frame.size)]; exact g1,g2,g3,g4,fun j d u hj hd hu => ?_⟩
      exact DRep.mono (fun b hb => ⟨hb.1,Nat.lt_of_lt_of_le hb.2.1 fr.size,by rw [hkeep b hb.2.1]; exact hb.2.2⟩) (fun b hb => hkeep b hb.2.1) _ _ _ (g5 j d u hj hd hu)
theorem cp_round {C:CpC} (hC:C.Ok) {i:Nat} (hi:i < C.vs.length) {a:Act} {w:World} (h:C.At i a w):rCopyB.wpIn (FR none) 0 P (fun e a' w' => e = .normal ∧ C.At (i + 1) a' w') a w:=by
  have hlt:∀ b,C.I b → b < w.heap.size:=fun b hb => Nat.lt_of_lt_of_le (hC.I b hb) h.frame.size
  obtain ⟨ty1,hbox⟩:=h.box
  have hne:C.vs ≠ []:=fun e => by rw [e] at hi; cases hi
  have hl0:=hC.l0 hne
  have hev:=hC.e0 hne
  obtain ⟨cur,us,g1,g2,g3,g4,g5⟩:=h.row hne
  have husl:us.length = C.vs.length:=by
    have:=hC.cap
    rw [← g3,List.length_take,Array.length_toList]
    omega
  obtain ⟨l,hl⟩ : ∃ l,C.vs[i]? = some l:=⟨_,List.getElem?_eq_getElem hi⟩
  have hlm:l.length ≤ 1000:=hC.all l (List.mem_of_getElem? hl)
  obtain ⟨xa,xb,xc,exs,hxa,hdr,_,_⟩:=Flat.at hC.xs hl
  have hkI:∀ b,C.I b → w.heap[b]? = C.w1.heap[b]?:=fun b hb => h.frame.block b (hC.I b hb) fun hM => hM.elim (fun e => hC.i1 (e ▸ hb)) (fun e => hC.i0 (e ▸ hb))
  have hdr':=DRep.mono (fun b hb => hb) hkI tIs l xb hdr
  obtain ⟨v,rfl,hsl⟩:=hdr'
  have hv:us[i]? = some v:=by
    have hxa' : xa.length = i:=by rw [hxa]; show i * 1 = i; omega
    rw [g4 i (Nat.le_refl _),exs,List.getElem?_append_right (by omega),hxa',Nat.sub_self]
    rfl
  have hvs : ∃ a n c,v = .slice a n c:=by
    obtain ⟨p,cp,e,_⟩:=hsl
    exact ⟨p,_,cp,e⟩
  have hset:us.set i v = us:=by
    apply List.ext_getElem?
    intro j
    rw [List.getElem?_set]
    split
    · rename_i e
      subst e
      rw [if_pos (by omega),hv]
    · rfl
  let E:En:=⟨fun k => bif Nat.beq k 2041 then C.b1 else bif Nat.beq k 18041 then C.b0 else C.b2,fun k => bif Nat.beq k 12041 then C.ev else bif Nat.beq k 18041 then C.env else bif Nat.beq k 7041 then C.pv else v,C.I,fun _ _ => default⟩
  let U:=apU noU [2041,3041,7041,12041,18041,700]
  have hiN:(i:Int).toNat = i:=Int.toNat_natCast i
  have hsat:SatE ⟨w,fun b => b = C.b1 ∨ b = C.b0,E,U,41,a.defers⟩ E (cpSt C.t C.c C.h C.o C.p C.n C.k C.vs.length i us l) a w:=by
    refine stOf_sat h.size rfl ?_ ?_ ?_ ?_ hlt
    · intro p hp
      simp only [List.mem_cons,List.not_mem_nil,or_false] at hp
      rcases hp with rfl | rfl | rfl | rfl
      · unfold Rep; exact ⟨rfl,h.t1⟩
      · unfold Rep; exact ⟨rfl,h.t2⟩
      · unfold Rep; exact h.t23
      · unfold Rep; exact h.t24
    · intro k o hk
      simp only [List.mem_cons,List.not_mem_nil,or_false,Prod.mk.injEq,Option.some.injEq] at hk
      rcases hk with ⟨rfl,rfl⟩ | ⟨rfl,rfl⟩ | ⟨rfl,rfl⟩
      · refine ⟨by decide,C.vals,ty1,hbox,?_⟩
        have ri:∀ n,Rep E U w (.int .i64 n) (.int .i64 n):=fun n => by unfold Rep; rfl
        refine RepL.cons (ri _) (RepL.cons (ri _) (RepL.cons (ri _) (RepL.cons (ri _) (RepL.cons (ri _) (RepL.cons ?_ (RepL.cons ?_ (RepL.cons (ri _) (RepL.cons ?_ (RepL.cons (ri _) RepL.nil)))))))))
        · unfold Rep; exact ⟨rfl,rfl,hC.ev⟩
        · unfold Rep; exact ⟨rfl,rfl,hC.es⟩
        · unfold Rep; exact ⟨rfl,rfl,hC.pv⟩
      · rw [hiN]
        refine ⟨by decide,by omega,⟨rfl,hvs⟩,C.cap,cur,by rw [husl]; exact hev,g1,by rw [husl]; exact hC.cap,hC.mx,g2,?_⟩
        rw [husl,g3]
        exact hset.symm
      · exact ⟨by decide,hsl⟩
    · intro j oj k ok hj hk lj lk he
      simp only [List.mem_cons,List.not_mem_nil,or_false,Prod.mk.injEq,Option.some.injEq] at hj hk
      rcases hj with ⟨rfl,rfl⟩ | ⟨rfl,rfl⟩ | ⟨rfl,rfl⟩ <;> rcases hk with ⟨rfl,rfl⟩ | ⟨rfl,rfl⟩ | ⟨rfl,rfl⟩
      · rfl
      · exact absurd he hC.ne
      · exact lk.elim
      · exact absurd he.symm hC.ne
      · rfl
      · exact lk.elim
      · exact lj.elim
      · exact lj.elim
      · exact lj.elim
    · intro k o hk lk
      simp only [List.mem_cons,List.not_mem_nil,or_false,Prod.mk.injEq,Option.some.injEq] at hk
      rcases hk with ⟨rfl,rfl⟩ | ⟨rfl,rfl⟩ | ⟨rfl,rfl⟩
      · exact ⟨hC.i1,.inl rfl⟩
      · exact ⟨hC.i0,.inr rfl⟩
      · exact lk.elim
  have hMd:∀ b,(b = C.b1 ∨ b = C.b0) → w.heap[b]? ≠ some (.deferred (some [])):=by
    rintro b (rfl | rfl) hd
    · rw [hbox] at hd; cases hd
    · rw [g1] at hd; cases hd
  refine execC_ok hm (r0:=none) (u0:=U) (cx:=[c_cpI.gc]) (lp:=fun _ => none) (ys:=[]) (Q:=fun x => x = (.normal,[.ptr 2041 0,.ptr 3041 0,.int .i64 C.vs.length,.int .i64 ((i:Int) + 1)],[some (.box [.int .i64 C.t,.int .i64 C.c,.int .i64 C.h,.int .i64 C.o,.int .i64 C.p,.own 12041,.own 18041,.int .i64 C.n,.own 7041,.int .i64 C.k]),some (.hole 22 us i 38041),some (.row 3 tI l)],[true]))
    (B:=⟨w,fun b => b = C.b1 ∨ b = C.b0,E,U,41,a.defers⟩) (fun k hk => hk) (fun h hh => by cases hh) rCopyB 0 (cpSt C.t C.c C.h C.o C.p C.n C.k C.vs.length i us l) (fun _ => none) (fun e S _ => obs [1,2,23,24] [2041,18041,38041] [38041] e S) _ (loopsCp _ _ _ _) (kInv_none _ _) ?_ ?_ a w ⟨E,hsat⟩
  · rw [T_cpB,hiN]
    have hr:(0:Int) ≤ i ∧ (i:Int) < us.length:=⟨by omega,by omega⟩
    refine ⟨fun _ => ⟨hr,rfl,hlm,hr,rfl,?_⟩,fun d => ?_⟩
    · have hlen:=hC.len
      rw [W_id (by omega) (by omega)]
      exact rfl
    · exact absurd (show (i:Int) < C.vs.length by omega) (of_decide_eq_false d)
  · intro e S' K' a' w' _ hs' hk
    have hq:=obs_holds hk
    injection hq with he hq
    injection hq with ht hq
    injection hq with hh hu
    simp only [List.map_cons,List.map_nil,List.cons.injEq,and_true] at ht hh hu
    obtain ⟨r1,r2,r3,r4⟩:=ht
    obtain ⟨o1,o2,o3⟩:=hh
    obtain ⟨E',hsE⟩:=hs'
    refine ⟨he,?_⟩
    have fr:=hsE.heap.frame
    have x1:=hsE.tmps 1 (show 1 < 41 by decide)
    have x2:=hsE.tmps 2 (show 2 < 41 by decide)
    have x3:=hsE.tmps 23 (show 23 < 41 by decide)
    have x4:=hsE.tmps 24 (show 24 < 41 by decide)
    rw [r1] at x1
    rw [r2] at x2
    rw [r3] at x3
    rw [r4] at x4
    unfold Rep at x1 x2 x3 x4
    have e1:E'.ρ 2041 = C.b1:=hsE.le.rho 2041 rfl
    have e2:E'.ρ 3041 = C.b2:=hsE.le.rho 3041 rfl
    have e0:E'.ρ 18041 = C.b0:=hsE.le.rho 18041 rfl
    have s1:E'.sv 12041 = C.ev:=hsE.le.sv 12041 rfl
    have s2:E'.sv 18041 = C.env:=hsE.le.sv 18041 rfl
    have s3:E'.sv 7041 = C.pv:=hsE.le.sv 7041 rfl
    have hkeep:∀ b,b < w.heap.size → b ≠ C.b1 → b ≠ C.b0 → w'.heap[b]? = w.heap[b]?:=fun b hb n1 n2 => fr.block b hb fun hM => hM.elim n1 n2
    have hm':=MarksAt.step (N:=C.N) hsE (Nat.le_trans hC.N h.frame.size) h.marks hMd
    obtain ⟨_,hi',⟨_,_⟩,cap',cur',q1,q2,q3,q4,q5,q6⟩:=hsE.heap.ob 18041 _ o2
    rw [s2,hev] at q1
    injection q1 with _ _ q1c
    subst q1c
    rw [e0] at q2
    obtain ⟨_,ys,how,hfl,hsv⟩:=hsE.heap.ob 38041 _ o3
    have hb0:C.b0 < w.heap.size:=Nat.lt_of_lt_of_le hl0 h.frame.size
    have hb1:C.b1 < w.heap.size:=Nat.lt_of_lt_of_le hC.l1 h.frame.size
    refine ⟨hsE.size,hm'.keep (fun _ _ => rfl) (fun b _ hb => hsE.le.imm b hb),by rw [x1.2,e1],by rw [x2.2,e2],x3,x4,?_,?_,?_⟩
    · exact ⟨fr.os.trans h.frame.os,fr.tape.trans h.frame.tape,fr.output.trans h.frame.output,Nat.le_trans h.frame.size fr.size,Nat.le_trans h.frame.drawn fr.drawn,fun b hb hM => (hkeep b (Nat.lt_of_lt_of_le hb h.frame.size) (fun e => hM (.inl e)) (fun e => hM (.inr e))).trans (h.frame.block b hb hM)⟩
    · obtain ⟨_,vs',ty',k1,k2⟩:=hsE.heap.ob 2041 _ o1
      have k3:=ex_repL (by rfl) k2
      simp only [List.map_cons,List.map_nil,exV,s1,s2,s3] at k3
      subst k3
      rw [e1] at k1
      exact ⟨ty',k1⟩
    · intro _
      refine ⟨cur',us.set i (E'.sv 38041),q2,q5,by rw [← husl]; exact q6,fun j hj => ?_,fun j d u hj hd hu => ?_⟩
      · rw [List.getElem?_set_ne (by omega)]
        exact g4 j (by omega)
      · by_cases hji:j = i
        · subst hji
          rw [List.getElem?_set_self (by omega)] at hu
          cases hu
          have hdl:d = l:=Option.some.inj (hd.symm.trans hl)
          subst hdl
          refine ⟨_,rfl,ownR_cells how (Flat.flat rfl _ _ hfl) fun b hb => ?_⟩
          rcases hsv with hn | ⟨cp,hsv⟩
          · rw [hn] at hb; cases hb
          · rw [hsv] at hb
            cases hb
            have hlv:Live E' S'.heap 38041:=⟨_,o3,by show E'.sv 38041 ≠ _; rw [hsv]; simp⟩
            refine ⟨?_,hsE.heap.liveLt hlv,(hsE.heap.ob 38041 _ o3).2.kind (by show E'.sv 38041 ≠ _; rw [hsv]; simp)⟩
            rcases hsE.heap.mine 38041 hlv with (hM | hM) | hM
            · have:=hsE.heap.inj 38041 2041 hlv ⟨_,o1,trivial⟩ (by rw [e1]; exact hM)
              cases this
            · have:=hsE.heap.inj 38041 18041 hlv ⟨_,o2,trivial⟩ (by rw [e0]; exact hM)
              cases this
            · exact Nat.le_trans h.frame.size hM
        · rw [List.getElem?_set_ne (fun e => hji e.symm)] at hu
          have hj' : j < i:=by omega
          have hk:∀ b,C.Fr w b → w'.heap[b]? = w.heap[b]?:=fun b hb => hkeep b hb.2.1 (fun e => by have:=hC.l1; have:=hb.1; omega) (fun e => by have:=hb.1; omega)
          exact DRep.mono (fun b hb => ⟨hb.1,Nat.lt_of_lt_of_le hb.2.1 fr.size,by rw [hk b hb]; exact hb.2.2⟩) hk _ _ _ (g5 j d u hj' hd hu)
theorem cp_loop {C:CpC} (hC:C.Ok) {a:Act} {w:World} (h:C.At 0 a w):lCopy.wpIn (FR none) 0 P (fun e a' w' => e = .normal ∧ C.At C.vs.length a' w') a w:=by
  have e:lCopy = .block 0 (.loop rCopyB):=by kernel_rfl
  rw [e]
  refine wpIn_block (wpIn_loop (fun a w => ∃ i,i ≤ C.vs.length ∧ C.At i a w) (fun a _ => C.vs.length - (match a.tmps.getD 24 undef with
    | .int _ n => n.toNat
    | _ => 0)) ⟨0,Nat.zero_le _,h⟩ ?_)
  rintro a w ⟨i,hi,h⟩
  rcases Nat.lt_or_ge i C.vs.length with hlt | hge
  · refine wpIn_mono (cp_round hC hlt h) ?_
    rintro e a' w' ⟨rfl,h'⟩
    refine ⟨⟨i + 1,hlt,h'⟩,?_⟩
    simp only [h.t24,h'.t24,Int.toNat_natCast]
    exact Nat.sub_lt_sub_left hlt (Nat.lt_succ_self i)
  · have:i = C.vs.length:=by omega
    subst this
    refine wpIn_mono (cp_exit hC h) ?_
    rintro e a' w' ⟨rfl,h'⟩
    exact ⟨rfl,h'⟩
end
end Go.MB
