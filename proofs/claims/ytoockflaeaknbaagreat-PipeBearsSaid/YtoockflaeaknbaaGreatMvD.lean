/- Pieces of a string, and what a string bears: the specification, and that nothing leaves its range. -/
import Derived.Test.YtoockflaeaknbaaGreatMvC
import Derived.Test.YtoockflaeaknbaaGreatMwI
namespace Go.MP
open Go Go.Sx Go.Proofs
set_option linter.unusedVariables false
set_option linter.unusedSimpArgs false
noncomputable section
abbrev R2:=Int × Int
abbrev H4:=Int × Int × Int × Int
abbrev Hg:=Int × R2 × R2
abbrev Cs:=Int × Int × R2 × Int
abbrev Pc:=Int × Int × Int × Int
abbrev tHg:Ty:=.pair tI (.pair tPart tPart)
abbrev tCs:Ty:=.pair tI (.pair tI (.pair tPart tI))
abbrev tPc:Ty:=.pair tI (.pair tI (.pair tI tI))
abbrev zV:V:=(0,0,0)
def fitsS (l:List Tb) (p:Pth):Int:=if checkT l ≠ 0 then checkT l else if checkS p ≠ 0 then checkS p else if sumT l > lenS p then 5 else 0
theorem fitsS_ok {l:List Tb} {p:Pth} (h:fitsS l p = 0):checkT l = 0 ∧ checkS p = 0 ∧ sumT l ≤ lenS p:=by
  unfold fitsS at h
  split at h
  · rename_i h1; exact absurd h h1
  split at h
  · rename_i h1; exact absurd h h1
  split at h
  · cases h
  · rename_i h1 h2 h3
    exact ⟨by simpa using h1,by simpa using h2,by omega⟩
def legOf (ks:List K2) (to:Int):Int:=(ks.findIdx (fun k => decide (to ≤ k.1)):Int) - 1
def knotA (ks:List K2) (i:Int):Int:=(ks.getD i.toNat (0,0)).1
def tubeP (ks:List K2) (i top:Int):Nat → Int → List Pc
  | 0,_ => []
  | n + 1,to => if to ≤ top then [] else (i,legOf ks to,maxI top (knotA ks (legOf ks to)),to) :: tubeP ks i top n (maxI top (knotA ks (legOf ks to)))
def tubeS (ks:List K2) (i top to:Int):List Pc:=tubeP ks i top (to - top).toNat to
def pcsL (ks:List K2):Int → Int → List Tb → List Pc
  | _,_,[] => []
  | i,to,t :: r => tubeS ks i (to - t.1 * t.2.1) to ++ pcsL ks (i + 1) (to - t.1 * t.2.1) r
def pcsS (l:List Tb) (p:Pth):List Pc:=if fitsS l p = 0 then pcsL (knots p.1 p.2) 0 (sumT l) l else []
structure Down (ks:List K2) (L:Int):Prop where
  two:2 ≤ ks.length
  first:knotA ks 0 = 0
  last:L ≤ knotA ks ((ks.length:Int) - 1)
  str:∀ i j:Int,0 ≤ i → i < j → j < ks.length → knotA ks i < knotA ks j
theorem Down.asc {ks:List K2} {L:Int} (h:Down ks L) (i j:Int) (h0:0 ≤ i) (h1:i ≤ j) (h2:j < ks.length):knotA ks i ≤ knotA ks j:=by
  rcases Int.lt_or_le i j with e | e
  · exact Int.le_of_lt (h.str i j h0 e h2)
  · rw [show i = j by omega]; exact Int.le_refl _
theorem knotA_eq {ks:List K2} {i:Nat} (h:i < ks.length):knotA ks i = (ks[i]).1:=by
  unfold knotA
  rw [Int.toNat_natCast,List.getD_eq_getElem?_getD,List.getElem?_eq_getElem h,Option.getD_some]
theorem legOf_ok {ks:List K2} {L to:Int} (h:Down ks L) (h0:0 < to) (h1:to ≤ L) :
    0 ≤ legOf ks to ∧ legOf ks to + 1 < ks.length ∧ knotA ks (legOf ks to) < to ∧ to ≤ knotA ks (legOf ks to + 1):=by
  have hl:=h.two
  have hlt:ks.findIdx (fun k => decide (to ≤ k.1)) < ks.length:=by
    refine List.findIdx_lt_length_of_exists ⟨ks[ks.length - 1]'(by omega),List.getElem_mem _,?_⟩
    have:=h.last
    rw [show (ks.length:Int) - 1 = ((ks.length - 1:Nat):Int) by omega,knotA_eq (by omega)] at this
    simp only [decide_eq_true_eq]; omega
  have hp:=List.findIdx_getElem (w:=hlt)
  simp only [decide_eq_true_eq] at hp
  have h2:0 < ks.findIdx (fun k => decide (to ≤ k.1)):=by
    rcases Nat.eq_zero_or_pos (ks.findIdx (fun k => decide (to ≤ k.1))) with e | e
    · exfalso
      have h3:=h.first
      have h4:knotA ks ((0:Nat):Int) = (ks[0]'(by omega)).1:=knotA_eq (by omega)
      simp only [e] at hp
      rw [show ((0:Nat):Int) = 0 from rfl,h3] at h4
      omega
    · exact e
  have hq:=List.not_of_lt_findIdx (p:=fun k:K2 => decide (to ≤ k.1)) (xs:=ks) (i:=ks.findIdx (fun k => decide (to ≤ k.1)) - 1) (by omega)
  simp only [decide_eq_false_iff_not,Bool.not_eq_true] at hq
  rw [← knotA_eq] at hp hq
  unfold legOf
  generalize ks.findIdx (fun k => decide (to ≤ k.1)) = f at hp hq hlt h2 ⊢
  refine ⟨by omega,by omega,?_,?_⟩
  · rw [show (f:Int) - 1 = ((f - 1:Nat):Int) by omega]
    omega
  · rw [show (f:Int) - 1 + 1 = (f:Int) by omega]
    exact hp
theorem legOf_mono {ks:List K2} {L a b:Int} (h:Down ks L) (h0:0 < a) (h1:a ≤ b) (h2:b ≤ L):legOf ks a ≤ legOf ks b:=by
  obtain ⟨x1,x2,x3,x4⟩:=legOf_ok h h0 (by omega)
  obtain ⟨y1,y2,y3,y4⟩:=legOf_ok h (show 0 < b by omega) h2
  rcases Int.lt_or_le (legOf ks b) (legOf ks a) with e | e
  · have:=h.asc (legOf ks b + 1) (legOf ks a) (by omega) (by omega) (by omega)
    omega
  · exact e
theorem tubeP_nil (ks:List K2) (i top:Int) (n:Nat) {to:Int} (h:to ≤ top):tubeP ks i top n to = []:=by
  cases n with
  | zero => rfl
  | succ n => rw [tubeP,if_pos h]
theorem tubeP_fuel {ks:List K2} {L:Int} (hd:Down ks L) (i:Int) {top:Int} (h0:0 ≤ top):∀ (n m:Nat) (to:Int),to ≤ L → (to - top).toNat ≤ n → (to - top).toNat ≤ m → tubeP ks i top n to = tubeP ks i top m to:=by
  intro n
  induction n with
  | zero =>
    intro m to hL hn hm
    rw [tubeP_nil ks i top m (by omega)]
    rfl
  | succ n ih =>
    intro m to hL hn hm
    by_cases h:to ≤ top
    · rw [tubeP_nil _ _ _ _ h,tubeP_nil _ _ _ _ h]
    · cases m with
      | zero => omega
      | succ m =>
        rw [tubeP,tubeP,if_neg h,if_neg h]
        obtain ⟨_,_,h3,_⟩:=legOf_ok hd (show 0 < to by omega) hL
        rw [maxI_eq]
        rw [ih m (max top (knotA ks (legOf ks to))) (by omega) (by omega) (by omega)]
theorem tubeS_nil (ks:List K2) (i top:Int) {to:Int} (h:to ≤ top):tubeS ks i top to = []:=tubeP_nil ks i top _ h
theorem tubeS_step {ks:List K2} {L:Int} (hd:Down ks L) (i:Int) {top to:Int} (h0:0 ≤ top) (h:top < to) (hL:to ≤ L) :
    tubeS ks i top to = (i,legOf ks to,maxI top (knotA ks (legOf ks to)),to) :: tubeS ks i top (maxI top (knotA ks (legOf ks to))):=by
  unfold tubeS
  obtain ⟨n,hn⟩ : ∃ n,(to - top).toNat = n + 1:=⟨(to - top).toNat - 1,by omega⟩
  obtain ⟨_,_,h3,_⟩:=legOf_ok hd (show 0 < to by omega) hL
  rw [hn,tubeP,if_neg (by omega)]
  congr 1
  rw [maxI_eq]
  exact tubeP_fuel hd i h0 _ _ _ (by omega) (by omega) (by omega)
theorem legOf_adj {ks:List K2} {L to fr:Int} (hd:Down ks L) (h0:0 < to) (h1:to ≤ L) (f0:0 < fr) (f1:fr ≤ to) (f2:knotA ks (legOf ks to) ≤ fr):legOf ks to = legOf ks fr ∨ legOf ks to = legOf ks fr + 1:=by
  obtain ⟨x1,x2,x3,x4⟩:=legOf_ok hd h0 h1
  obtain ⟨y1,y2,y3,y4⟩:=legOf_ok hd f0 (show fr ≤ L by omega)
  have hm:=legOf_mono hd f0 f1 h1
  rcases Int.lt_or_le (legOf ks fr + 1) (legOf ks to) with e | e
  · have:=hd.str (legOf ks fr + 1) (legOf ks to) (by omega) e (by omega)
    omega
  · omega
def absI (n:Int):Int:=maxI n (-n)
def leastS (lo hi:Int):Int:=if lo ≤ 0 ∧ 0 ≤ hi then 0 else minI (absI lo) (absI hi)
def bentS (mode:Int) (mu b:R2) (o:Int) (x:H4):H4 :=
  if mode = 1 then (x.1 + lowS9 (absI x.1) mu.1 b.1,x.2.1 + upS9 (absI x.2.1) mu.2 b.2,x.2.2)
  else if mode = 2 then (x.1 - upS9 (absI x.1) mu.2 b.2,x.2.1 - lowS9 (absI x.2.1) mu.1 b.1,x.2.2)
  else (x.1,x.2.1,IntKind.i64.wrap (x.2.2.1 + lowS9 (leastS x.1 x.2.1) mu.1 b.1 * o / 2),IntKind.i64.wrap (x.2.2.2 + upS (upS9 (maxI (absI x.1) (absI x.2.1)) mu.2 b.2 * o) 2))
def rubS (mode low high o:Int) (x:H4):H4 :=
  if mode = 1 then (x.1 + low,x.2.1 + high,x.2.2) else if mode = 2 then (x.1 - high,x.2.1 - low,x.2.2)
  else (x.1,x.2.1,IntKind.i64.wrap (x.2.2.1 + low * o / 2),IntKind.i64.wrap (x.2.2.2 + upS (high * o) 2))
def wildS (x:H4):Bool:=decide (x.1 < -4398046511104) || decide (x.2.1 > 4398046511104)
def hungS (a n:Int) (x:H4):H4:=(x.1 + a / n,x.2.1 + upS a n,x.2.2)
def pcT (l:List Tb) (q:Pc):Tb:=l.getD q.1.toNat zT
def pcV (p:Pth) (q:Pc):V:=p.2.getD q.2.1.toNat zV
def pcW (l:List Tb) (c:Cs) (q:Pc):Int:=wetS (pcT l q) c.2.1 * (q.2.2.2 - q.2.2.1)
def step1 (l:List Tb) (p:Pth) (c:Cs) (below:Int) (q:Pc) (x:H4):H4 :=
  if below ≥ 0 ∧ below ≠ q.2.1 then bentS c.1 c.2.2.1 (bendV (pcV p q) (p.2.getD below.toNat zV)) (pcT l q).2.2.2.2.1 x else x
def step2 (l:List Tb) (p:Pth) (c:Cs) (q:Pc) (x:H4):H4:=hungS (pcW l c q * (pcV p q).2.2) (wholeS (pcV p q)).1 x
def rubLo (l:List Tb) (p:Pth) (c:Cs) (q:Pc):Int:=pcW l c q * (sideS (pcV p q)).1 / (wholeS (pcV p q)).1 * c.2.2.1.1 / 1000
def rubHi (l:List Tb) (p:Pth) (c:Cs) (q:Pc):Int:=upS (upS (pcW l c q * (sideS (pcV p q)).2) (wholeS (pcV p q)).1 * c.2.2.1.2) 1000
def step3 (l:List Tb) (p:Pth) (c:Cs) (q:Pc) (x:H4):H4:=rubS c.1 (rubLo l p c q) (rubHi l p c q) (pcT l q).2.2.2.2.1 x
def runS (l:List Tb) (p:Pth) (c:Cs):Int → H4 → List Pc → Bool × List Hg × List R2
  | _,_,[] => (true,[],[])
  | below,x,q :: r =>
    if wildS (step1 l p c below q x) = true then (false,[],[])
    else if wildS (step2 l p c q (step1 l p c below q x)) = true then (false,[],[])
    else if wildS (step3 l p c q (step2 l p c q (step1 l p c below q x))) = true then (false,[],[])
    else ((runS l p c q.2.1 (step3 l p c q (step2 l p c q (step1 l p c below q x))) r).1,
      (q.2.2.1,((step3 l p c q (step2 l p c q (step1 l p c below q x))).1,(step3 l p c q (step2 l p c q (step1 l p c below q x))).2.1),(step3 l p c q (step2 l p c q (step1 l p c below q x))).2.2) :: (runS l p c q.2.1 (step3 l p c q (step2 l p c q (step1 l p c below q x))) r).2.1,
      ((step1 l p c below q x).1,(step1 l p c below q x).2.1) :: (runS l p c q.2.1 (step3 l p c q (step2 l p c q (step1 l p c below q x))) r).2.2)
def startS (c:Cs):H4:=if c.1 = 1 then (c.2.2.2,c.2.2.2,0,0) else (-c.2.2.2,-c.2.2.2,0,0)
def caseS (l:List Tb) (c:Cs):Int :=
  if checkT l ≠ 0 then checkT l else if c.1 < 1 ∨ c.1 > 3 then 4 else if wi c.2.1 0 40000 = false ∨ c.2.2.1.1 < 0 ∨ c.2.2.1.1 > c.2.2.1.2 ∨ c.2.2.1.2 > 600 ∨ wi c.2.2.2 0 1099511627776 = false then 2
  else if l.any (fun t => decide (wetS t c.2.1 ≤ 0)) = true then 10 else 0
def loadsS (l:List Tb) (p:Pth) (c:Cs):List Hg × List R2 × Int :=
  if fitsS l p ≠ 0 then ([],[],fitsS l p) else if caseS l c ≠ 0 then ([],[],caseS l c)
  else if (runS l p c (-1) (startS c) (pcsS l p)).1 = true then ((runS l p c (-1) (startS c) (pcsS l p)).2.1,(runS l p c (-1) (startS c) (pcsS l p)).2.2,0) else ([],[],2)
end
end Go.MP
