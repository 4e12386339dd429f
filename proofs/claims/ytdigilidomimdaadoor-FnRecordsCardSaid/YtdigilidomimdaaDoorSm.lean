/- The plain law of the merge in place that slices.SortStableFunc uses (symMerge, rotate, swapRange), over an array and a strict weak order: no program in sight. No condition beyond those written at each theorem. -/
import Derived.Sort.Lot0
import Derived.Sort.LotA
set_option linter.unusedSectionVars false
set_option linter.unusedVariables false
set_option linter.unusedSimpArgs false
namespace Go.Proofs.YtdigilidomimdaaDoor.Sm
set_option linter.unusedVariables false
open Go.Sort
variable {α : Type} [Inhabited α] {lt : α → α → Bool}

def Via (f : Nat → Nat) (d d' : Array α) : Prop := d'.size = d.size ∧ ∀ x, d'[x]! = d[f x]!
theorem Via.comp {f g : Nat → Nat} {d d' d'' : Array α} (h : Via f d d') (k : Via g d' d'') : Via (fun x => f (g x)) d d'' := ⟨k.1.trans h.1, fun x => by rw [k.2, h.2]⟩
theorem Via.of_eq {f g : Nat → Nat} {d d' : Array α} (h : Via f d d') (e : ∀ x, g x = f x) : Via g d d' := ⟨h.1, fun x => by rw [h.2, e]⟩
def swI (a b n x : Nat) : Nat := if a ≤ x ∧ x < a + n then x + b - a else if b ≤ x ∧ x < b + n then x + a - b else x
def rotI (a m b x : Nat) : Nat := if a ≤ x ∧ x < a + (b - m) then x + (m - a) else if a + (b - m) ≤ x ∧ x < b then x - (b - m) else x
def twI (i j x : Nat) : Nat := if x = j then i else if x = i then j else x
theorem via_swp {d : Array α} {i j : Nat} (hi : i < d.size) (hj : j < d.size) : Via (twI i j) d (swp d i j) := by
  refine ⟨size_swp d i j, fun x => ?_⟩
  rw [swp_get d hi hj x]
  unfold twI
  split
  · rfl
  · split <;> rfl
theorem swI_zero (a b x : Nat) : x = swI a b 0 x := by
  unfold swI
  rw [if_neg (by omega), if_neg (by omega)]
theorem via_id (d : Array α) {f : Nat → Nat} (h : ∀ x, f x = x) : Via f d d := ⟨rfl, fun x => by rw [h]⟩
theorem swI_step (a b i x : Nat) (h : a + i < b) : swI a b (i + 1) x = swI a b i (twI (a + i) (b + i) x) := by
  unfold swI twI
  repeat' split
  all_goals omega
theorem rotI_more (m i j x : Nat) (hj : j < i) (hi : i ≤ m) : rotI (m - i) m (m + j) x = swI (m - i) m j (rotI (m - (i - j)) m (m + j) x) := by
  unfold swI rotI
  repeat' split
  all_goals omega
theorem rotI_less (m i j x : Nat) (hj : i < j) (hi : i ≤ m) : rotI (m - i) m (m + j) x = swI (m - i) (m + j - i) i (rotI (m - i) m (m + (j - i)) x) := by
  unfold swI rotI
  repeat' split
  all_goals omega
theorem rotI_same (m i x : Nat) (hi : i ≤ m) : rotI (m - i) m (m + i) x = swI (m - i) m i x := by
  unfold swI rotI
  repeat' split
  all_goals omega
theorem rotI_none (a m b x : Nat) (h : a ≤ m) (h2 : m ≤ b) (h3 : a = m ∨ m = b) : rotI a m b x = x := by
  unfold rotI
  repeat' split
  all_goals omega
theorem rotI_up (a k x : Nat) (h : a ≤ k) : rotI a (a + 1) (k + 2) x = rotI a (a + 1) (k + 1) (twI k (k + 1) x) := by
  unfold rotI twI
  repeat' split
  all_goals omega
theorem rotI_down (k m x : Nat) (h : k + 1 ≤ m) : rotI k m (m + 1) x = rotI (k + 1) m (m + 1) (twI (k + 1) k x) := by
  unfold rotI twI
  repeat' split
  all_goals omega
theorem less_not (hS : SWO lt) {x y : α} (h : lt x y = true) : lt y x = false := by
  cases q : lt y x with
  | false => rfl
  | true =>
    have := hS.trans _ _ _ h q
    rw [hS.irrefl] at this
    cases this
theorem sorted_le (hS : SWO lt) {a b : Nat} {d : Array α} (h : SortedIn lt a b d) {i j : Nat} (hi : a ≤ i) (hij : i ≤ j) (hj : j < b) : lt d[j]! d[i]! = false := by
  by_cases q : i = j
  · subst q
    exact hS.irrefl _
  · exact h i j hi (by omega) hj
/-- What the two parts are, once the ranges between are exchanged. -/
theorem parts (hS : SWO lt) {a m b mid s e : Nat} {d d1 : Array α} (hmid : mid + m = s + e) (h0 : a ≤ s) (h1 : s ≤ m) (h2 : m ≤ e) (h3 : e ≤ b)
    (hL : SortedIn lt a m d) (hR : SortedIn lt m b d) (q1 : a < s → e < b → lt d[e]! d[s - 1]! = false) (q2 : s < m → m < e → lt d[e - 1]! d[s]! = true) (hv : Via (rotI s m e) d d1) :
    SortedIn lt a s d1 ∧ SortedIn lt s mid d1 ∧ SortedIn lt mid e d1 ∧ SortedIn lt e b d1 ∧ (∀ x y, a ≤ x → x < mid → mid ≤ y → y < b → lt d1[y]! d1[x]! = false) := by
  have r0 : ∀ x, x < s → rotI s m e x = x := fun x hx => by unfold rotI; rw [if_neg (by omega), if_neg (by omega)]
  have r1 : ∀ x, s ≤ x → x < mid → rotI s m e x = x + (m - s) := fun x hx hy => by unfold rotI; rw [if_pos (by omega)]
  have r2 : ∀ x, mid ≤ x → x < e → rotI s m e x = x - (e - m) := fun x hx hy => by unfold rotI; rw [if_neg (by omega), if_pos (by omega)]
  have r3 : ∀ x, e ≤ x → rotI s m e x = x := fun x hx => by unfold rotI; rw [if_neg (by omega), if_neg (by omega)]
  refine ⟨fun i j hi hij hj => ?_, fun i j hi hij hj => ?_, fun i j hi hij hj => ?_, fun i j hi hij hj => ?_, fun x y hx hxm hy hyb => ?_⟩
  · rw [hv.2, hv.2, r0 i (by omega), r0 j (by omega)]
    exact hL i j hi hij (by omega)
  · rw [hv.2, hv.2, r1 i (by omega) (by omega), r1 j (by omega) (by omega)]
    exact hR _ _ (by omega) (by omega) (by omega)
  · rw [hv.2, hv.2, r2 i (by omega) (by omega), r2 j (by omega) (by omega)]
    exact hL _ _ (by omega) (by omega) (by omega)
  · rw [hv.2, hv.2, r3 i (by omega), r3 j (by omega)]
    exact hR _ _ (by omega) (by omega) (by omega)
  · rw [hv.2, hv.2]
    by_cases c1 : x < s
    · rw [r0 x c1]
      by_cases c2 : y < e
      · rw [r2 y hy c2]
        exact hL _ _ (by omega) (by omega) (by omega)
      · rw [r3 y (by omega)]
        exact hS.ntrans _ _ _ (sorted_le hS hR (i := e) (j := y) (by omega) (by omega) hyb) (hS.ntrans _ _ _ (q1 (by omega) (by omega)) (sorted_le hS hL (i := x) (j := s - 1) hx (by omega) (by omega)))
    · rw [r1 x (by omega) hxm]
      by_cases c2 : y < e
      · rw [r2 y hy c2]
        exact hS.ntrans _ _ _ (sorted_le hS hL (i := s) (j := y - (e - m)) (by omega) (by omega) (by omega)) (hS.ntrans _ _ _ (less_not hS (q2 (by omega) (by omega))) (sorted_le hS hR (i := x + (m - s)) (j := e - 1) (by omega) (by omega) (by omega)))
      · rw [r3 y (by omega)]
        exact hR _ _ (by omega) (by omega) (by omega)
theorem whole (hS : SWO lt) {a mid b : Nat} {d1 d2 d3 : Array α} (h0 : a ≤ mid) (h1 : mid ≤ b) (hb : b ≤ d1.size) (p2 : PermIn a mid d1 d2) (s2 : SortedIn lt a mid d2) (p3 : PermIn mid b d2 d3) (s3 : SortedIn lt mid b d3)
    (hx : ∀ x y, a ≤ x → x < mid → mid ≤ y → y < b → lt d1[y]! d1[x]! = false) : SortedIn lt a b d3 := by
  intro i j hi hij hj
  by_cases c1 : j < mid
  · rw [p3.2.1 i (by omega), p3.2.1 j (by omega)]
    exact s2 i j hi hij c1
  · by_cases c2 : mid ≤ i
    · exact s3 i j c2 hij hj
    · rw [p3.2.1 i (by omega)]
      refine permIn_all d2 d3 mid b (fun z => lt z d2[i]! = false) (by rw [p2.1]; exact hb) p3 (fun y hy hyb => ?_) j (by omega) hj
      show lt d2[y]! d2[i]! = false
      rw [p2.2.1 y (by omega)]
      exact permIn_all d1 d2 a mid (fun z => lt d1[y]! z = false) (by omega) p2 (fun x hxa hxm => hx x y hxa hxm hy hyb) i hi (by omega)
theorem ins_left (hS : SWO lt) {a b i : Nat} {d d' : Array α} (hR : SortedIn lt (a + 1) b d) (hi : a + 1 ≤ i) (hib : i ≤ b) (q1 : a + 1 < i → lt d[i - 1]! d[a]! = true) (q2 : i < b → lt d[i]! d[a]! = false) (hv : Via (rotI a (a + 1) i) d d') : SortedIn lt a b d' := by
  have r1 : ∀ x, a ≤ x → x < i - 1 → rotI a (a + 1) i x = x + 1 := fun x hx hy => by unfold rotI; rw [if_pos (by omega)]; omega
  have r2 : rotI a (a + 1) i (i - 1) = a := by unfold rotI; rw [if_neg (by omega), if_pos (by omega)]; omega
  have r3 : ∀ x, i ≤ x → rotI a (a + 1) i x = x := fun x hx => by unfold rotI; rw [if_neg (by omega), if_neg (by omega)]
  intro u v hu huv hv'
  rw [hv.2, hv.2]
  by_cases c1 : u < i - 1
  · rw [r1 u hu c1]
    by_cases c2 : v < i - 1
    · rw [r1 v (by omega) c2]
      exact hR _ _ (by omega) (by omega) (by omega)
    · by_cases c3 : v = i - 1
      · rw [c3, r2]
        refine less_not hS ?_
        have q := q1 (by omega)
        by_cases c4 : u + 1 = i - 1
        · rw [c4]
          exact q
        · cases z : lt d[u + 1]! d[a]! with
          | true => rfl
          | false =>
            have := hS.ntrans _ _ _ (hR (u + 1) (i - 1) (by omega) (by omega) (by omega)) z
            rw [this] at q
            cases q
      · rw [r3 v (by omega)]
        exact hR _ _ (by omega) (by omega) (by omega)
  · by_cases c2 : u = i - 1
    · rw [c2, r2, r3 v (by omega)]
      exact hS.ntrans _ _ _ (sorted_le hS hR (i := i) (j := v) (by omega) (by omega) hv') (q2 (by omega))
    · rw [r3 u (by omega), r3 v (by omega)]
      exact hR _ _ (by omega) (by omega) (by omega)
theorem ins_right (hS : SWO lt) {a m i : Nat} {d d' : Array α} (hL : SortedIn lt a m d) (hi : a ≤ i) (him : i ≤ m) (q1 : a < i → lt d[m]! d[i - 1]! = false) (q2 : i < m → lt d[m]! d[i]! = true) (hv : Via (rotI i m (m + 1)) d d') : SortedIn lt a (m + 1) d' := by
  have r0 : ∀ x, x < i → rotI i m (m + 1) x = x := fun x hx => by unfold rotI; rw [if_neg (by omega), if_neg (by omega)]
  have r1 : rotI i m (m + 1) i = m := by unfold rotI; rw [if_pos (by omega)]; omega
  have r2 : ∀ x, i < x → x < m + 1 → rotI i m (m + 1) x = x - 1 := fun x hx hy => by unfold rotI; rw [if_neg (by omega), if_pos (by omega)]; omega
  intro u v hu huv hv'
  rw [hv.2, hv.2]
  by_cases c1 : u < i
  · rw [r0 u c1]
    by_cases c2 : v < i
    · rw [r0 v c2]
      exact hL _ _ hu huv (by omega)
    · by_cases c3 : v = i
      · rw [c3, r1]
        exact hS.ntrans _ _ _ (q1 (by omega)) (sorted_le hS hL (i := u) (j := i - 1) hu (by omega) (by omega))
      · rw [r2 v (by omega) hv']
        exact hL _ _ hu (by omega) (by omega)
  · by_cases c2 : u = i
    · rw [c2, r1, r2 v (by omega) hv']
      refine less_not hS ?_
      have q := q2 (by omega)
      by_cases c4 : v - 1 = i
      · rw [c4]
        exact q
      · cases z : lt d[m]! d[v - 1]! with
        | true => rfl
        | false =>
          have := hS.ntrans _ _ _ z (hL i (v - 1) hi (by omega) (by omega))
          rw [this] at q
          cases q
    · rw [r2 u (by omega) (by omega), r2 v (by omega) hv']
      exact hL _ _ (by omega) (by omega) (by omega)
/-- Whatever lies in one block of so many lies sorted. -/
def Blocks (lt : α → α → Bool) (bs lo n : Nat) (d : Array α) : Prop := ∀ i j, lo ≤ i → i < j → j < n → i / bs = j / bs → lt d[j]! d[i]! = false
theorem blocks_sorted {bs lo n : Nat} {d : Array α} (h : Blocks lt bs lo n d) (hb : 0 < bs) (t : Nat) {x y : Nat} (h0 : lo ≤ x) (h1 : bs * t ≤ x) (h2 : y ≤ bs * t + bs) (h3 : y ≤ n) : SortedIn lt x y d := by
  intro i j hi hij hj
  have e1 : i / bs = t := by
    refine Nat.div_eq_of_lt_le ?_ ?_
    · rw [Nat.mul_comm]; omega
    · rw [Nat.add_mul, Nat.mul_comm, Nat.one_mul]; omega
  have e2 : j / bs = t := by
    refine Nat.div_eq_of_lt_le ?_ ?_
    · rw [Nat.mul_comm]; omega
    · rw [Nat.add_mul, Nat.mul_comm, Nat.one_mul]; omega
  exact h i j (by omega) hij (by omega) (e1.trans e2.symm)
theorem blocks_next {bs t n y : Nat} {d d' : Array α} (hb : 0 < bs) (h : ∀ i j, i < j → j < bs * t → i / bs = j / bs → lt d[j]! d[i]! = false) (hp : PermIn (bs * t) y d d') (hs : SortedIn lt (bs * t) y d') (hy : y ≤ bs * t + bs) :
    ∀ i j, i < j → j < y → i / bs = j / bs → lt d'[j]! d'[i]! = false := by
  intro i j hij hj he
  by_cases c : j < bs * t
  · rw [hp.2.1 i (by omega), hp.2.1 j (by omega)]
    exact h i j hij c he
  · by_cases c2 : bs * t ≤ i
    · exact hs i j c2 hij hj
    · exfalso
      have e1 : i / bs < t := (Nat.div_lt_iff_lt_mul hb).2 (by rw [Nat.mul_comm]; omega)
      have e2 : t ≤ j / bs := (Nat.le_div_iff_mul_le hb).2 (by rw [Nat.mul_comm]; omega)
      omega
end Go.Proofs.YtdigilidomimdaaDoor.Sm
