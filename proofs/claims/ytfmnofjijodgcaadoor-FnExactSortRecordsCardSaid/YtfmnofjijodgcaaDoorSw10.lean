/- The walks of slices.SortStableFunc's family at records, text 10: over any program that bears these bodies. Printed by a program of this session. Conditions: as written at each theorem. -/
import Derived.Test.YtfmnofjijodgcaaDoorSw9
import Derived.Test.YtfmnofjijodgcaaDoorWWords
namespace Go.Proofs.YtfmnofjijodgcaaDoor.Sw
set_option linter.unusedSimpArgs false
set_option linter.unusedSectionVars false
set_option linter.unusedVariables false
open Go.Proofs Go.Shelf Go.RowKit Go.Lib Go.Sort Go.Proofs.YtfmnofjijodgcaaDoor.Sm
variable {P : Program} {α : Type} [Inhabited α]
open Go.Proofs.YtfmnofjijodgcaaDoorW.PrintWords
theorem holds_of_reps {enc : α → List Value} {k : Nat} (hk : ∀ x, (enc x).length = k) (hk0 : 0 < k) {w : World} {g e : Nat} {cur : Array Value} (hh : w.heap[g]? = some (.cells cur e (0, 0))) (xs : List α) (inner : List Value) (hc : cur.toList.take (xs.length * k) = inner) (hr : ∀ i p, xs[i]? = some p → (inner.drop (i * k)).take k = enc p) : HoldsK enc k w g 0 xs.toArray := by
  intro j hj
  rw [size_flatK] at hj
  have hj' : j < xs.length * k := by simpa using hj
  have hd : j / k < xs.length := (Nat.div_lt_iff_lt_mul hk0).2 hj'
  have hm : j % k < k := Nat.mod_lt _ hk0
  have hjk : j / k * k + j % k = j := by rw [Nat.mul_comm]; exact Nat.div_add_mod j k
  refine ⟨?_, blk_frozen hh _⟩
  rw [blk_cell hh, Nat.zero_add, get_flatK _ _ _ _ hj]
  have e2 := hr (j / k) xs[j / k] (List.getElem?_eq_getElem hd)
  have e1 : cur[j]? = (enc xs[j / k])[j % k]? := by
    rw [← e2, List.getElem?_take_of_lt hm, List.getElem?_drop, hjk, ← hc, List.getElem?_take_of_lt hj', Array.getElem?_toList]
  rw [e1]
  have hxe : (xs.toArray)[j / k]! = xs[j / k] := by rw [getElem!_pos xs.toArray (j / k) (by simpa using hd)]; simp
  rw [hxe]
  have hlen : j % k < (enc xs[j / k]).length := by rw [hk]; exact hm
  rw [List.getElem?_eq_getElem hlen, getElem!_pos (enc xs[j / k]) (j % k) hlen]
  rfl
theorem reps_of_flat {enc : α → List Value} {k : Nat} (hk : ∀ x, (enc x).length = k) (hk0 : 0 < k) (d : Array α) (i : Nat) (p : α) (h : d.toList[i]? = some p) : ((flatK enc k d).toList.drop (i * k)).take k = enc p := by
  have hi : i < d.size := by
    have := (List.getElem?_eq_some_iff.1 h).1
    simpa using this
  have hp : d[i]! = p := by
    rw [getElem!_pos d i hi]
    rw [Array.getElem?_toList, Array.getElem?_eq_getElem hi] at h
    exact Option.some.inj h
  have hb : i * k + k ≤ d.size * k := by
    have := Nat.mul_le_mul_right k (show i + 1 ≤ d.size from hi)
    rwa [Nat.add_mul, Nat.one_mul] at this
  apply List.ext_getElem?
  intro t
  by_cases ht : t < k
  · have hj : i * k + t < d.size * k := by omega
    rw [List.getElem?_take_of_lt ht, List.getElem?_drop, Array.getElem?_toList, Array.getElem?_eq_getElem (by rw [size_flatK]; exact hj), ← getElem!_pos (flatK enc k d) (i * k + t) (by rw [size_flatK]; exact hj), get_flatK _ _ _ _ hj]
    have e1 : (i * k + t) / k = i := by rw [Nat.mul_comm, Nat.mul_add_div hk0, Nat.div_eq_of_lt ht, Nat.add_zero]
    have e2 : (i * k + t) % k = t := by rw [Nat.mul_comm, Nat.mul_add_mod, Nat.mod_eq_of_lt ht]
    have hlen : t < (enc p).length := by rw [hk]; exact ht
    rw [e1, e2, hp, getElem!_pos (enc p) t hlen, List.getElem?_eq_getElem hlen]
  · rw [List.getElem?_eq_none (by simp; omega), List.getElem?_eq_none (by rw [hk]; omega)]
theorem swd_heap {enc : α → List Value} {k : Nat} {w W : World} {g e : Nat} {d : Array α} {cur : Array Value} (h : SWD enc k w g 0 d W) (hh : w.heap[g]? = some (.cells cur e (0, 0))) (hs : d.size * k ≤ cur.size) :
    (∃ cur', W.heap[g]? = some (.cells cur' e (0, 0)) ∧ cur'.size = cur.size ∧ cur'.toList.take (d.size * k) = (flatK enc k d).toList) ∧ W.os = w.os ∧ W.tape = w.tape ∧ W.output = w.output ∧ w.heap.size ≤ W.heap.size ∧ ∀ i, i < w.heap.size → i ≠ g → W.heap[i]? = w.heap[i]? := by
  obtain ⟨q, m, os, e1⟩ := h
  have hg : g < w.heap.size := blk_lt hh
  have eh : W.heap = (w.heap.modify g (onCells (putCells id 0 (flatK enc k d)))) ++ os := congrArg World.heap e1
  have e2 : W.os = w.os := by have z := congrArg World.os e1; exact z
  have e3 : W.tape = w.tape := by have z := congrArg World.tape e1; exact z
  have e4 : W.output = w.output := by have z := congrArg World.output e1; exact z
  have old : ∀ i, i < w.heap.size → W.heap[i]? = (w.heap.modify g (onCells (putCells id 0 (flatK enc k d))))[i]? := fun i hi => by
    rw [eh, Array.getElem?_append_left (by simpa using hi)]
  refine ⟨⟨putCells id 0 (flatK enc k d) cur, ?_, by simp [putCells], ?_⟩, e2, e3, e4, by rw [eh]; simp, fun i hi hne => ?_⟩
  · rw [old g hg, Array.getElem?_modify, if_pos rfl, hh]
    rfl
  · apply List.ext_getElem?
    intro t
    by_cases ht : t < d.size * k
    · have hc : t < cur.size := by omega
      have hf : t < (flatK enc k d).size := by rw [size_flatK]; exact ht
      rw [List.getElem?_take_of_lt ht, Array.getElem?_toList, Array.getElem?_toList, Array.getElem?_eq_getElem (by simp [putCells]; exact hc), Array.getElem?_eq_getElem hf]
      simp [putCells, ht, hf]
    · rw [List.getElem?_eq_none (by simp; omega), List.getElem?_eq_none (by simp; omega)]
  · rw [old i hi, Array.getElem?_modify, if_neg (fun h => hne h.symm)]
theorem R_sort {k : Nat} (S : Bare P k) (fSO : P.funcs[75]? = some Tryd.f75) (D : Kd α) (enc : α → List Value) (hD : D.sz = k) (hM : ∀ w base okb x cs, D.M w base okb x cs ↔ cs = enc x) (hk : ∀ x, (enc x).length = k) (h1 : ∀ x, ∀ v ∈ enc x, v.oneCell' = true) (hk0 : 0 < k)
    (g : Nat) (cb : Array Value) (ok : α → Prop) (cf : α → α → Int) (eg : ∀ args w, (callFunc g args).run P w = .ok (.enter g args) w) (hcmp : CmpB P g cb enc ok cf) (hS : SWO (ltOf cf)) (anti : ∀ x y, ltOf cf x y = false → ltOf cf y x = false → x = y)
    (e base : Nat) (v : Value) (xs : List α) (w : World) (hR : D.R e w base (fun _ => True) v xs) (hok : ∀ x ∈ xs, ok x) (hsz : xs.length < 1152921504606846976) (hbw : base ≤ w.heap.size) :
    Calls P 75 #[v, .func (.func g) #[] cb] w fun e' w' => e' = .returned (.tuple #[]) ∧ D.R e w' base (fun _ => True) v (xs.mergeSort (fun x y => !ltOf cf y x)) ∧ Below base w w' ∧ w.heap.size ≤ w'.heap.size ∧ ∀ i, i < w.heap.size → v.ownBlock ≠ some i → w'.heap[i]? = w.heap[i]? := by
  obtain ⟨ho, inner, ⟨hlen, hv⟩, hreps⟩ := hR
  rw [hD] at hlen hreps
  rcases hv with ⟨rfl, hn0⟩ | ⟨g0, cap, cur, rfl, hbase, hheap, hncap, hcap, hcur, htake⟩
  · obtain rfl : xs = [] := List.eq_nil_of_length_eq_zero hn0
    exact (sortNil S fSO g cb w).mono fun e' w' ⟨he, hb⟩ => ⟨he, by simpa using Kd.R_nil D e w' base (fun _ => True), ⟨hb.os, hb.tape, hb.output, hb.size, fun i hi => hb.block i (Nat.lt_of_lt_of_le hi hbw)⟩, hb.size, fun i hi _ => hb.block i hi⟩
  · rw [hD] at hcur htake
    have hsl : xs.length * k ≤ cur.size := by rw [hcur]; exact Nat.mul_le_mul_right k hncap
    have hH := holds_of_reps hk hk0 hheap xs inner htake (fun i p hp => (hM _ _ _ _ _).1 (hreps.2 i p hp))
    have R : RowK enc k w g0 0 xs.toArray := ⟨hk, h1, hH, blk_lt hheap⟩
    have c := sortStable S enc g cb g0 0 cap xs.toArray xs.toArray w w R rfl (SWD.start hH) ok cf eg hcmp (fun i hi => hok _ (by rw [getElem!_pos xs.toArray i hi]; simp)) hS (by simpa using hsz) fSO
    rw [show xs.toArray.size = xs.length by simp] at c
    refine c.mono fun e' w' ⟨he, d', T, hp, hs⟩ => ?_
    have hds : d'.size = xs.length := by rw [hp.1]; simp
    have hu := sorted_unique_holds (lt := ltOf cf) hS anti xs.toArray d' (by simpa using hp) (by simpa using hs)
    obtain ⟨⟨cur', hh', hcs, htk⟩, o1, o2, o3, o4, o5⟩ := swd_heap T hheap (by rw [hds]; exact hsl)
    have hml : (xs.mergeSort (fun x y => !ltOf cf y x)).length = xs.length := List.length_mergeSort _
    refine ⟨he, ⟨ho, (flatK enc k d').toList, ⟨by rw [hD, hml, ← hds]; simp, .inr ⟨g0, cap, cur', by rw [hml], hbase, hh', by rw [hml]; exact hncap, hcap, by rw [hcs, hD]; exact hcur, by rw [hD, hml, ← hds]; exact htk⟩⟩, ?_⟩, ⟨o1, o2, o3, o4, fun i hi => ?_⟩, o4, fun i hi hne => o5 i hi (fun e => hne (by rw [e]; rfl))⟩
    · rw [hD]
      refine ⟨by rw [hml, ← hds]; simp, fun i p hpp => (hM _ _ _ _ _).2 (reps_of_flat hk hk0 d' i p ?_)⟩
      rw [hu]
      exact hpp
    · exact o5 i (Nat.lt_of_lt_of_le hi (Nat.le_trans hbase (Nat.le_of_lt (blk_lt hheap)))) (by omega)
set_option maxRecDepth 100000 in
set_option maxHeartbeats 4000000 in
theorem bareT : Bare Tryd.prog 6 where
  mixed := rfl
  fSW := Tryd.func151
  fRO := Tryd.func145
  fME := Tryd.func136
  fIN := Tryd.func135
  fST := Tryd.func115
  t0 := Tryd.underlying0
  a0 := fun _ => rfl
  z0 := fun _ => rfl
  v0 := fun _ => rfl
  t3 := Tryd.underlying3
  a3 := fun _ => rfl
  z3 := fun _ => rfl
  v3 := fun _ => rfl
  t4 := Tryd.underlying4
  a4 := fun _ => rfl
  z4 := fun _ => rfl
  v4 := fun _ => rfl
  t46 := Tryd.underlying46
  a46 := fun _ => rfl
  z46 := fun _ => rfl
  v46 := fun _ => rfl
  t86 := Tryd.underlying86
  a86 := fun _ => rfl
  z86 := fun _ => rfl
  v86 := fun _ => rfl
  t116 := Tryd.underlying116
  a116 := fun _ => rfl
  z116 := fun _ => rfl
  v116 := fun _ => rfl
  aE := fun _ => rfl
  zE := fun _ => rfl

end Go.Proofs.YtfmnofjijodgcaaDoor.Sw
