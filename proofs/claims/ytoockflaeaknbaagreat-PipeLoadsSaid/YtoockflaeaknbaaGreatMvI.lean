/- Following a string: the loads keep their order and their range. -/
import Derived.Test.YtoockflaeaknbaaGreatMvH
namespace Go.MP
open Go Go.Sx Go.Proofs
set_option linter.unusedVariables false
set_option linter.unusedSimpArgs false
noncomputable section
structure CaseOk (l:List Tb) (c:Cs):Prop where
  mode:1 ≤ c.1 ∧ c.1 ≤ 3
  mud:0 ≤ c.2.1 ∧ c.2.1 ≤ 40000
  mu:OkMu c.2.2.1
  bit:0 ≤ c.2.2.2 ∧ c.2.2.2 ≤ 1099511627776
  wet:∀ t ∈ l,0 < wetS t c.2.1
def dryT (m:Int) (t:Tb):Bool:=decide (wetS t m ≤ 0)
theorem caseS_ok {l:List Tb} {c:Cs} (h:caseS l c = 0):checkT l = 0 ∧ CaseOk l c:=by
  unfold caseS at h
  split at h
  · rename_i h1; exact absurd h h1
  split at h
  · cases h
  split at h
  · cases h
  split at h
  · cases h
  rename_i h1 h2 h3 h4
  have w1:wi c.2.1 0 40000 = true:=by cases e:wi c.2.1 0 40000 with | true => rfl | false => exact absurd (.inl e) h3
  have w2:wi c.2.2.2 0 1099511627776 = true:=by cases e:wi c.2.2.2 0 1099511627776 with | true => rfl | false => exact absurd (.inr (.inr (.inr (.inr e)))) h3
  refine ⟨by simpa using h1,by omega,wi_iff.1 w1,⟨?_,?_,?_⟩,wi_iff.1 w2,fun t ht => ?_⟩
  · exact Int.not_lt.1 fun e => h3 (.inr (.inl e))
  · exact Int.not_lt.1 fun e => h3 (.inr (.inr (.inl e)))
  · exact Int.not_lt.1 fun e => h3 (.inr (.inr (.inr (.inl e))))
  · have h4:l.any (fun t => decide (wetS t c.2.1 ≤ 0)) = false:=by simpa using h4
    have:=List.any_eq_false.1 h4 t ht
    simp only [decide_eq_true_eq] at this
    omega
theorem floor_ceil (a n:Int) (hn:0 < n):a / n ≤ upS a n:=by
  unfold upS
  have e1:=Int.mul_ediv_add_emod a n
  have e2:=Int.mul_ediv_add_emod (-a) n
  have r1:=Int.emod_nonneg a (show n ≠ 0 by omega)
  have r2:=Int.emod_nonneg (-a) (show n ≠ 0 by omega)
  have h:n * (a / n + -a / n) ≤ n * 0:=by rw [Int.mul_add]; omega
  have:=Int.le_of_mul_le_mul_left h hn
  omega
theorem div_mono {a b n:Int} (h:a ≤ b) (hn:0 < n):a / n ≤ b / n:=Int.ediv_le_ediv hn h
theorem bent_order {mode:Int} {mu b:R2} {o:Int} {x:H4} (hm:mode = 1 ∨ mode = 2 ∨ mode = 3) (hx:OkX x.1 x.2.1) (hu:OkMu mu) (hb:OkB b):(bentS mode mu b o x).1 ≤ (bentS mode mu b o x).2.1:=by
  obtain ⟨k1,k2⟩:=hu.k hb
  have k3:mu.1 * b.1 ≤ mu.2 * b.2:=Int.mul_le_mul hu.2.1 hb.2.1 hb.1 (by have:=hu.1; have:=hu.2.1; omega)
  obtain ⟨h1,h2,h3⟩:=hx
  rcases hm with rfl | rfl | rfl
  · rw [bent1]
    have:=addLow h2 k1.1 k3 k2.2
    have:=low_up (absI x.2.1) mu.2 b.2
    dsimp only
    omega
  · rw [bent2]
    have:=subUp h2 k1.1 k3 k2.2
    have:=low_up (absI x.2.1) mu.1 b.1
    dsimp only
    omega
  · rw [bent3]; exact h2
theorem rub_order {mode a b o:Int} {x:H4} (hm:mode = 1 ∨ mode = 2 ∨ mode = 3) (hx:x.1 ≤ x.2.1) (h:a ≤ b):(rubS mode a b o x).1 ≤ (rubS mode a b o x).2.1:=by
  rcases hm with rfl | rfl | rfl
  · rw [rub1]; dsimp only; omega
  · rw [rub2]; dsimp only; omega
  · rw [rub3]; exact hx
theorem hung_order {a n:Int} {x:H4} (hn:0 < n) (hx:x.1 ≤ x.2.1):(hungS a n x).1 ≤ (hungS a n x).2.1:=by
  have:=floor_ceil a n hn
  unfold hungS
  dsimp only
  omega
theorem tame {x:H4} (h:x.1 ≤ x.2.1) (hw:¬ wildS x = true):OkX x.1 x.2.1:=by
  unfold wildS at hw
  simp only [Bool.or_eq_true,decide_eq_true_eq,not_or] at hw
  exact ⟨by omega,h,by omega⟩
theorem checkL_dots:∀ {l:List V} {a:V} {prev:Option V},checkL a prev l = 0 → ∀ i:Nat,i + 1 < l.length → 0 < vdot (l.getD i zV) (l.getD (i + 1) zV)
  | [],_,_,_,i,h => by simp at h
  | [u],_,_,_,i,h => by simp at h
  | u :: v :: r,a,prev,h,i,hi => by
    obtain ⟨_,_,_,h2⟩:=checkL_zero h
    cases i with
    | zero =>
      obtain ⟨_,hd,_,_⟩:=checkL_zero h2
      exact hd u rfl
    | succ i =>
      have:=checkL_dots h2 i (by simpa using hi)
      simpa using this
theorem checkS_dots {p:Pth} (h:checkS p = 0) (i:Nat) (hi:i + 1 < p.2.length):0 < vdot (p.2.getD i zV) (p.2.getD (i + 1) zV):=by
  unfold checkS at h
  split at h
  · cases h
  · split at h
    · cases h
    · exact checkL_dots h i hi
theorem bendQ_ok {a d:Int} (h0:0 ≤ a) (h1:a < d):OkB (bendQ a d):=by
  obtain ⟨b1,b2,b3⟩:=bndI_ok h0 (show a ≤ 2 * d by omega) (by omega)
  have:bndI a d < 1414214:=sqd_lt (d:=d) (by decide) (by omega) (by omega)
  unfold bendQ OkB
  dsimp only
  split <;> omega
theorem bendV_ok {v w:V} (h:0 < vdot v w):OkB (bendV v w):=by
  unfold bendV
  split
  · rename_i e
    obtain ⟨t1,_,t3,_,_,t6⟩:=TurnS_ok e
    exact bendQ_ok t1 (t6 h)
  · exact ⟨by decide,by decide,by decide⟩
theorem bend_adj {p:Pth} (h:checkS p = 0) {g b:Int} (h0:0 ≤ g) (hb:b = g ∨ b = g + 1) (hb2:b < p.2.length) (hne:b ≠ g):OkB (bendV (p.2.getD g.toNat zV) (p.2.getD b.toNat zV)):=by
  have e:b = g + 1:=by omega
  subst e
  have:=checkS_dots h g.toNat (by omega)
  rw [show (g + 1).toNat = g.toNat + 1 by omega]
  exact bendV_ok this
theorem side_rng {v:V} (h:legOk v):0 ≤ (sideS v).1 ∧ (sideS v).1 ≤ (sideS v).2 ∧ (sideS v).1 ≤ (wholeS v).1 ∧ (sideS v).2 ≤ (wholeS v).1 + 1:=by
  obtain ⟨h1,h2,h3⟩:=h
  obtain ⟨w1,w2,w3,w4,_⟩:=wholeS_true h1
  have hi:=w1
  rw [inB_iff] at w1
  have x1:=mulB w1.1 w1.1
  have x2:=mulB w1.2.1 w1.2.1
  have n1:=sq_nonneg v.1
  have n2:=sq_nonneg v.2.1
  have n3:=sq_nonneg v.2.2
  unfold sideS
  rw [if_pos hi]
  obtain ⟨s1,s2,s3⟩:=sqI_ok (n:=v.1 * v.1 + v.2.1 * v.2.1) (by omega) (by omega)
  have hle:v.1 * v.1 + v.2.1 * v.2.1 ≤ (wholeS v).1 * (wholeS v).1:=by rw [w3]; unfold dotZ; omega
  have:sqI (v.1 * v.1 + v.2.1 * v.2.1) < (wholeS v).1 + 1:=by
    refine sq_lt (by omega) ?_
    have:((wholeS v).1 + 1) * ((wholeS v).1 + 1) = (wholeS v).1 * (wholeS v).1 + 2 * (wholeS v).1 + 1:=by grind
    omega
  unfold rootsS
  dsimp only
  split <;> omega
structure PcOk (l:List Tb) (p:Pth) (c:Cs) (q:Pc):Prop where
  tube:Fair (pcT l q)
  wpos:0 < pcW l c q
  wmax:pcW l c q ≤ 4194304000000
  leg:legOk (pcV p q)
theorem PcOk.rub {l:List Tb} {p:Pth} {c:Cs} {q:Pc} (h:PcOk l p c q) (hm:OkMu c.2.2.1):OkF (rubLo l p c q) (rubHi l p c q) ∧
    (0 ≤ pcW l c q * (sideS (pcV p q)).1 ∧ pcW l c q * (sideS (pcV p q)).1 ≤ 549759943868416000) ∧ (0 ≤ pcW l c q * (sideS (pcV p q)).2 ∧ pcW l c q * (sideS (pcV p q)).2 ≤ 549764138172416000) ∧
    (0 ≤ pcW l c q * (sideS (pcV p q)).1 / (wholeS (pcV p q)).1 ∧ pcW l c q * (sideS (pcV p q)).1 / (wholeS (pcV p q)).1 ≤ 8388608000000) ∧ (0 ≤ upS (pcW l c q * (sideS (pcV p q)).2) (wholeS (pcV p q)).1 ∧ upS (pcW l c q * (sideS (pcV p q)).2) (wholeS (pcV p q)).1 ≤ 8388608000000):=by
  obtain ⟨s1,s2,s3,s4⟩:=side_rng h.leg
  obtain ⟨_,n1,n2⟩:=h.leg
  obtain ⟨m1,m2,m3⟩:=hm
  have hw:=h.wpos
  have hw2:=h.wmax
  unfold rubLo rubHi
  generalize pcW l c q = w at *
  generalize (sideS (pcV p q)).1 = a at *
  generalize (sideS (pcV p q)).2 = b at *
  generalize (wholeS (pcV p q)).1 = n at *
  have e1:=mul_rng (a:=w) (b:=a) (A:=4194304000000) (B:=131072) (by omega) hw2 s1 (by omega)
  have e2:=mul_rng (a:=w) (b:=b) (A:=4194304000000) (B:=131073) (by omega) hw2 (by omega) (by omega)
  have e3:w * a ≤ w * b:=Int.mul_le_mul_of_nonneg_left s2 (by omega)
  have e4:w * b ≤ w * 2 * n:=by
    have:w * b ≤ w * (2 * n):=Int.mul_le_mul_of_nonneg_left (by omega) (by omega)
    have e:w * (2 * n) = w * 2 * n:=by grind
    omega
  have hn:0 < n:=by omega
  have f0:0 ≤ w * a / n:=Int.ediv_nonneg e1.1 (by omega)
  have f1:w * a / n ≤ upS (w * b) n:=Int.le_trans (div_mono e3 hn) (floor_ceil _ _ hn)
  have f2:upS (w * b) n ≤ w * 2:=by
    unfold upS
    have : -(w * 2) ≤ -(w * b) / n:=Int.le_ediv_of_mul_le hn (by rw [Int.neg_mul]; omega)
    omega
  have g1:=mul_rng (a:=w * a / n) (b:=c.2.2.1.1) (A:=8388608000000) (B:=600) f0 (by omega) m1 (by omega)
  have g2:=mul_rng (a:=upS (w * b) n) (b:=c.2.2.1.2) (A:=8388608000000) (B:=600) (by omega) (by omega) (by omega) m3
  have g3:w * a / n * c.2.2.1.1 ≤ upS (w * b) n * c.2.2.1.2:=Int.mul_le_mul f1 m2 m1 (by omega)
  refine ⟨⟨by omega,?_,?_⟩,by omega,by omega,by omega,by omega⟩
  · have:=floor_ceil (upS (w * b) n * c.2.2.1.2) 1000 (by decide)
    omega
  · unfold upS at g2 ⊢
    omega
def hangS (fr:Int) (x:H4):Hg:=(fr,(x.1,x.2.1),x.2.2)
def runF (l:List Tb) (p:Pth) (c:Cs):Int → H4 → List Hg → List R2 → List Pc → Bool × Int × H4 × List Hg × List R2
  | below,x,A,B,[] => (true,below,x,A,B)
  | below,x,A,B,q :: r =>
    if wildS (step1 l p c below q x) = true then (false,below,x,A,B)
    else if wildS (step2 l p c q (step1 l p c below q x)) = true then (false,below,x,A,B)
    else if wildS (step3 l p c q (step2 l p c q (step1 l p c below q x))) = true then (false,below,x,A,B)
    else runF l p c q.2.1 (step3 l p c q (step2 l p c q (step1 l p c below q x))) (A ++ [hangS q.2.2.1 (step3 l p c q (step2 l p c q (step1 l p c below q x)))]) (B ++ [((step1 l p c below q x).1,(step1 l p c below q x).2.1)]) r
theorem runF_nil (l:List Tb) (p:Pth) (c:Cs) (below:Int) (x:H4) (A:List Hg) (B:List R2):runF l p c below x A B [] = (true,below,x,A,B):=rfl
theorem runF_cons (l:List Tb) (p:Pth) (c:Cs) (below:Int) (x:H4) (A:List Hg) (B:List R2) (q:Pc) (r:List Pc):runF l p c below x A B (q :: r) =
    if wildS (step1 l p c below q x) = true then (false,below,x,A,B)
    else if wildS (step2 l p c q (step1 l p c below q x)) = true then (false,below,x,A,B)
    else if wildS (step3 l p c q (step2 l p c q (step1 l p c below q x))) = true then (false,below,x,A,B)
    else runF l p c q.2.1 (step3 l p c q (step2 l p c q (step1 l p c below q x))) (A ++ [hangS q.2.2.1 (step3 l p c q (step2 l p c q (step1 l p c below q x)))]) (B ++ [((step1 l p c below q x).1,(step1 l p c below q x).2.1)]) r:=rfl
theorem runF_append (l:List Tb) (p:Pth) (c:Cs):∀ (m:List Pc) (below:Int) (x:H4) (A:List Hg) (B:List R2) (r:List Pc),runF l p c below x A B (m ++ r) =
    if (runF l p c below x A B m).1 = true then runF l p c (runF l p c below x A B m).2.1 (runF l p c below x A B m).2.2.1 (runF l p c below x A B m).2.2.2.1 (runF l p c below x A B m).2.2.2.2 r else runF l p c below x A B m
  | [],below,x,A,B,r => by rw [runF_nil,if_pos rfl]; rfl
  | q :: m,below,x,A,B,r => by
    rw [List.cons_append,runF_cons,runF_cons]
    split
    · rw [if_neg (fun h => by cases h)]
    split
    · rw [if_neg (fun h => by cases h)]
    split
    · rw [if_neg (fun h => by cases h)]
    exact runF_append l p c m _ _ _ _ r
theorem runF_S (l:List Tb) (p:Pth) (c:Cs):∀ (m:List Pc) (below:Int) (x:H4) (A:List Hg) (B:List R2),(runF l p c below x A B m).1 = (runS l p c below x m).1 ∧
    ((runS l p c below x m).1 = true → (runF l p c below x A B m).2.2.2.1 = A ++ (runS l p c below x m).2.1 ∧ (runF l p c below x A B m).2.2.2.2 = B ++ (runS l p c below x m).2.2)
  | [],below,x,A,B => by rw [runF_nil]; exact ⟨rfl,fun _ => ⟨(List.append_nil _).symm,(List.append_nil _).symm⟩⟩
  | q :: m,below,x,A,B => by
    rw [runF_cons,runS]
    split
    · exact ⟨rfl,fun h => by cases h⟩
    split
    · exact ⟨rfl,fun h => by cases h⟩
    split
    · exact ⟨rfl,fun h => by cases h⟩
    obtain ⟨i1,i2⟩:=runF_S l p c m q.2.1 (step3 l p c q (step2 l p c q (step1 l p c below q x))) (A ++ [hangS q.2.2.1 (step3 l p c q (step2 l p c q (step1 l p c below q x)))]) (B ++ [((step1 l p c below q x).1,(step1 l p c below q x).2.1)])
    refine ⟨i1,fun h => ?_⟩
    obtain ⟨j1,j2⟩:=i2 h
    rw [j1,j2,List.append_assoc,List.append_assoc]
    exact ⟨rfl,rfl⟩
structure EnvOk (l:List Tb) (p:Pth) (c:Cs):Prop where
  fits:fitsS l p = 0
  case:CaseOk l c
theorem EnvOk.pc {l:List Tb} {p:Pth} {c:Cs} (h:EnvOk l p c) {i to:Int} (h0:0 ≤ i) (h1:i < l.length) (t0:0 < to) (t1:to ≤ lenS p) (t2:to ≤ 1048576) {fr:Int} (f0:0 ≤ fr) (f1:fr < to):PcOk l p c (i,legOf (knots p.1 p.2) to,fr,to):=by
  obtain ⟨f1',f2',f3'⟩:=fitsS_ok h.fits
  obtain ⟨_,g2,g3,g4⟩:=checkT_ok f1'
  have hd:=fits_down h.fits
  obtain ⟨l1,l2,l3,l4⟩:=legOf_ok hd t0 t1
  have hk:=knots_length p.1 p.2
  have hm:=mem_getD (d:=zT) h0 h1
  have hw:=h.case.wet _ hm
  have hw2:=(g3 _ hm).wet h.case.mud.1 h.case.mud.2
  have hp:=mul_rng (a:=wetS (l.getD i.toNat zT) c.2.1) (b:=to - fr) (A:=4000000) (B:=1048576) (by omega) (by omega) (by omega) (by omega)
  have hp2:1 * 1 ≤ wetS (l.getD i.toNat zT) c.2.1 * (to - fr):=Int.mul_le_mul (by omega) (by omega) (by decide) (by omega)
  refine ⟨g3 _ hm,?_,?_,?_⟩
  · show 0 < wetS (l.getD i.toNat zT) c.2.1 * (to - fr); omega
  · show wetS (l.getD i.toNat zT) c.2.1 * (to - fr) ≤ _; omega
  · show legOk (p.2.getD (legOf (knots p.1 p.2) to).toNat zV)
    exact checkS_legs f2' _ (mem_getD l1 (by omega))
structure StOk (p:Pth) (ks:List K2) (to below:Int) (x:H4):Prop where
  x:OkX x.1 x.2.1
  lo : -1 ≤ below
  hi:below < p.2.length
  adj:below ≥ 0 → 0 < to → below = legOf ks to ∨ below = legOf ks to + 1
theorem step1_ok {l:List Tb} {p:Pth} {c:Cs} (h:EnvOk l p c) {to below:Int} {x:H4} (hs:StOk p (knots p.1 p.2) to below x) (t0:0 < to) (t1:to ≤ lenS p) (i fr:Int) :
    (below ≥ 0 → below ≠ legOf (knots p.1 p.2) to → OkB (bendV (p.2.getD (legOf (knots p.1 p.2) to).toNat zV) (p.2.getD below.toNat zV))) ∧
    (step1 l p c below (i,legOf (knots p.1 p.2) to,fr,to) x).1 ≤ (step1 l p c below (i,legOf (knots p.1 p.2) to,fr,to) x).2.1:=by
  obtain ⟨f1',f2',f3'⟩:=fitsS_ok h.fits
  have hd:=fits_down h.fits
  obtain ⟨l1,l2,l3,l4⟩:=legOf_ok hd t0 t1
  have hb:below ≥ 0 → below ≠ legOf (knots p.1 p.2) to → OkB (bendV (p.2.getD (legOf (knots p.1 p.2) to).toNat zV) (p.2.getD below.toNat zV)):=fun b0 b1 => bend_adj f2' l1 (hs.adj b0 t0) hs.hi b1
  refine ⟨hb,?_⟩
  unfold step1
  split
  · rename_i hc
    have hmode:=h.case.mode
    exact bent_order (by omega) hs.x h.case.mu (hb hc.1 hc.2)
  · exact hs.x.2.1
theorem step_next {l:List Tb} {p:Pth} {c:Cs} (h:EnvOk l p c) {to below:Int} {x:H4} (hs:StOk p (knots p.1 p.2) to below x) (t0:0 < to) (t1:to ≤ lenS p) (t2:to ≤ 1048576) {i fr:Int} (i0:0 ≤ i) (i1:i < l.length) (f0:0 ≤ fr) (f1:fr < to) (f2:knotA (knots p.1 p.2) (legOf (knots p.1 p.2) to) ≤ fr)
    (w3:¬ wildS (step3 l p c (i,legOf (knots p.1 p.2) to,fr,to) (step2 l p c (i,legOf (knots p.1 p.2) to,fr,to) (step1 l p c below (i,legOf (knots p.1 p.2) to,fr,to) x))) = true) :
    StOk p (knots p.1 p.2) fr (legOf (knots p.1 p.2) to) (step3 l p c (i,legOf (knots p.1 p.2) to,fr,to) (step2 l p c (i,legOf (knots p.1 p.2) to,fr,to) (step1 l p c below (i,legOf (knots p.1 p.2) to,fr,to) x))):=by
  have hd:=fits_down h.fits
  obtain ⟨l1,l2,l3,l4⟩:=legOf_ok hd t0 t1
  have hk:=knots_length p.1 p.2
  have hpc:=h.pc i0 i1 t0 t1 t2 f0 f1
  have hmode:=h.case.mode
  obtain ⟨_,o1⟩:=step1_ok h hs t0 t1 i fr
  have o2:=hung_order (a:=pcW l c (i,legOf (knots p.1 p.2) to,fr,to) * (pcV p (i,legOf (knots p.1 p.2) to,fr,to)).2.2) (n:=(wholeS (pcV p (i,legOf (knots p.1 p.2) to,fr,to))).1) (by have:=hpc.leg.2.1; omega) o1
  have o3:=rub_order (mode:=c.1) (o:=(pcT l (i,legOf (knots p.1 p.2) to,fr,to)).2.2.2.2.1) (by omega) o2 (hpc.rub h.case.mu).1.2.1
  refine ⟨tame o3 w3,by omega,by omega,fun _ f00 => ?_⟩
  rcases legOf_adj hd t0 t1 f00 (by omega) f2 with e | e
  · exact .inl e
  · exact .inr e
theorem runF_ok {l:List Tb} {p:Pth} {c:Cs} (h:EnvOk l p c) {i:Int} (i0:0 ≤ i) (i1:i < l.length) {top:Int} (h0:0 ≤ top):∀ (n:Nat) (to below:Int) (x:H4) (A:List Hg) (B:List R2),(to - top).toNat ≤ n → top ≤ to → to ≤ lenS p → to ≤ 1048576 → StOk p (knots p.1 p.2) to below x →
    (runF l p c below x A B (tubeS (knots p.1 p.2) i top to)).1 = true → StOk p (knots p.1 p.2) top (runF l p c below x A B (tubeS (knots p.1 p.2) i top to)).2.1 (runF l p c below x A B (tubeS (knots p.1 p.2) i top to)).2.2.1 ∧
      ((runF l p c below x A B (tubeS (knots p.1 p.2) i top to)).2.2.2.1.length:Int) ≤ A.length + (to - top) ∧ ((runF l p c below x A B (tubeS (knots p.1 p.2) i top to)).2.2.2.2.length:Int) ≤ B.length + (to - top):=by
  intro n
  induction n with
  | zero =>
    intro to below x A B hn ht hL h20 hs hr
    have e:to = top:=by omega
    subst e
    rw [tubeS_nil _ _ _ (Int.le_refl _),runF_nil]
    exact ⟨hs,by dsimp only; omega,by dsimp only; omega⟩
  | succ n ih =>
    intro to below x A B hn ht hL h20 hs hr
    have hd:=fits_down h.fits
    by_cases hto:to ≤ top
    · have e:to = top:=by omega
      subst e
      rw [tubeS_nil _ _ _ (Int.le_refl _),runF_nil]
      exact ⟨hs,by dsimp only; omega,by dsimp only; omega⟩
    · obtain ⟨l1,l2,l3,l4⟩:=legOf_ok hd (show 0 < to by omega) hL
      have hm:top ≤ maxI top (knotA (knots p.1 p.2) (legOf (knots p.1 p.2) to)) ∧ maxI top (knotA (knots p.1 p.2) (legOf (knots p.1 p.2) to)) < to ∧ knotA (knots p.1 p.2) (legOf (knots p.1 p.2) to) ≤ maxI top (knotA (knots p.1 p.2) (legOf (knots p.1 p.2) to)):=by rw [maxI_eq]; omega
      rw [tubeS_step hd i h0 (by omega) hL,runF_cons] at hr ⊢
      generalize maxI top (knotA (knots p.1 p.2) (legOf (knots p.1 p.2) to)) = fr at *
      split at hr
      · cases hr
      rename_i w1
      rw [if_neg w1]
      split at hr
      · cases hr
      rename_i w2
      rw [if_neg w2]
      split at hr
      · cases hr
      rename_i w3
      rw [if_neg w3]
      have hs':=step_next h hs (by omega) hL h20 i0 i1 (show 0 ≤ fr by omega) hm.2.1 hm.2.2 w3
      obtain ⟨a1,a2,a3⟩:=ih fr _ _ _ _ (by omega) hm.1 (by omega) (by omega) hs' hr
      refine ⟨a1,?_,?_⟩
      · exact Int.le_trans a2 (by rw [List.length_append,List.length_singleton]; omega)
      · exact Int.le_trans a3 (by rw [List.length_append,List.length_singleton]; omega)
theorem calm {x:H4} (h:OkX x.1 x.2.1):¬ wildS x = true:=by
  obtain ⟨h1,h2,h3⟩:=h
  unfold wildS
  simp only [Bool.or_eq_true,decide_eq_true_eq,not_or]
  omega
theorem root_leg {v:V} (h:legOk v):rootS (vdot v v) = wholeS v:=by
  have hi:=(wholeS_true h.1).1
  unfold wholeS
  rw [if_pos hi,vdot_eq hi hi]
theorem leg_z {v:V} (h:legOk v) : -131072 ≤ v.2.2 ∧ v.2.2 ≤ 131072:=by
  have hi:=(wholeS_true h.1).2.2.2.1
  rw [inB_iff] at hi
  have:=h.2
  omega
theorem EnvOk.pc' {l:List Tb} {p:Pth} {c:Cs} (h:EnvOk l p c) {ks:List K2} (hks:ks = knots p.1 p.2) {i to:Int} (h0:0 ≤ i) (h1:i < l.length) (t0:0 < to) (t1:to ≤ lenS p) (t2:to ≤ 1048576) {fr:Int} (f0:0 ≤ fr) (f1:fr < to):PcOk l p c (i,legOf ks to,fr,to):=by
  subst hks; exact h.pc h0 h1 t0 t1 t2 f0 f1
theorem step1_ok' {l:List Tb} {p:Pth} {c:Cs} (h:EnvOk l p c) {ks:List K2} (hks:ks = knots p.1 p.2) {to below:Int} {x:H4} (hs:StOk p ks to below x) (t0:0 < to) (t1:to ≤ lenS p) (i fr:Int) :
    (below ≥ 0 → below ≠ legOf ks to → OkB (bendV (p.2.getD (legOf ks to).toNat zV) (p.2.getD below.toNat zV))) ∧
    (step1 l p c below (i,legOf ks to,fr,to) x).1 ≤ (step1 l p c below (i,legOf ks to,fr,to) x).2.1:=by
  subst hks; exact step1_ok h hs t0 t1 i fr
theorem step_next' {l:List Tb} {p:Pth} {c:Cs} (h:EnvOk l p c) {ks:List K2} (hks:ks = knots p.1 p.2) {to below:Int} {x:H4} (hs:StOk p ks to below x) (t0:0 < to) (t1:to ≤ lenS p) (t2:to ≤ 1048576) {i fr:Int} (i0:0 ≤ i) (i1:i < l.length) (f0:0 ≤ fr) (f1:fr < to) (f2:knotA ks (legOf ks to) ≤ fr)
    (w3:¬ wildS (step3 l p c (i,legOf ks to,fr,to) (step2 l p c (i,legOf ks to,fr,to) (step1 l p c below (i,legOf ks to,fr,to) x))) = true) :
    StOk p ks fr (legOf ks to) (step3 l p c (i,legOf ks to,fr,to) (step2 l p c (i,legOf ks to,fr,to) (step1 l p c below (i,legOf ks to,fr,to) x))):=by
  subst hks; exact step_next h hs t0 t1 t2 i0 i1 f0 f1 f2 w3
theorem runF_ok' {l:List Tb} {p:Pth} {c:Cs} (h:EnvOk l p c) {ks:List K2} (hks:ks = knots p.1 p.2) {i:Int} (i0:0 ≤ i) (i1:i < l.length) {top:Int} (h0:0 ≤ top) (to below:Int) (x:H4) (A:List Hg) (B:List R2) (ht:top ≤ to) (hL:to ≤ lenS p) (h2:to ≤ 1048576) (hs:StOk p ks to below x)
    (hr:(runF l p c below x A B (tubeS ks i top to)).1 = true):StOk p ks top (runF l p c below x A B (tubeS ks i top to)).2.1 (runF l p c below x A B (tubeS ks i top to)).2.2.1 ∧
      ((runF l p c below x A B (tubeS ks i top to)).2.2.2.1.length:Int) ≤ A.length + (to - top) ∧ ((runF l p c below x A B (tubeS ks i top to)).2.2.2.2.length:Int) ≤ B.length + (to - top):=by
  subst hks; exact runF_ok h i0 i1 h0 _ to below x A B (Nat.le_refl _) ht hL h2 hs hr
end
end Go.MP
