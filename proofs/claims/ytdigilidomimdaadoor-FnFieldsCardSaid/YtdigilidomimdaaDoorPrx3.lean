-- Written for this claim by a program of this session (wip/tool/pr.py, over the kit's printer).
-- half
import Derived.Test.YtdigilidomimdaaDoorPrx0
import Derived.Test.YtdigilidomimdaaDoorPrx2
namespace Go.Proofs.YtdigilidomimdaaDoor.Pr
open Go.RowKit Go.Proofs.YtdigilidomimdaaDoorW.PrintWords Go.Proofs.YtdigilidomimdaaDoorW.PrintLast Go.Proofs.YtdigilidomimdaaDoorW.PrintMore
attribute [local go_sem] max2_int min2_int max_two min_two max_three min_three max_four min_four   -- for this text's walks alone
set_option linter.unusedVariables false
set_option linter.unusedSimpArgs false

/-! ### spec_Above: function 120 -/
def spec_Above.l0 : Nat → List ByteArray → List ByteArray → Int → Option (List ByteArray)
 | 0, _, _, _ => none
 | k + 1, x3, x4, x5 => if x5 ≤ (x4.length : Int) then (if 0 ≤ x5 then ((spec_JoinLabels.f k (x4.drop (x5 : Int).toNat)).bind fun t134 => (if x3.length < 8796093022208 then (spec_Above.l0 k (x3 ++ [t134]) x4 (wrap64 (x5 + 1))) else (none))) else (none)) else (some x3)
def spec_Above.f (k : Nat) (a0 : ByteArray) : Option (List ByteArray) := (spec_Labels.f k a0).bind fun t127 => (spec_Above.l0 k (([a0] : List ByteArray)) t127 1)
theorem spec_Above.mono_l : ∀ k, (∀ y0 y1 y2, LeO (spec_Above.l0 k y0 y1 y2) (spec_Above.l0 (k + 1) y0 y1 y2))
 | 0 => fun _ _ _ r h => by simp [spec_Above.l0] at h
 | k + 1 => by
  have ih0 := spec_Above.mono_l k
  ·intro y0 y1 y2
   unfold spec_Above.l0
   repeat' first
   | (with_reducible first | exact ih0 _ _ _ | exact spec_JoinLabels.mono _ _ | exact spec_Labels.mono _ _ | exact LeO.refl _ | exact LeO.none _ | refine LeO.ite ?_ ?_ | refine LeO.bind ?_ (fun _ => ?_))
   | exact ih0 _ _ _
   | exact spec_JoinLabels.mono _ _
   | exact spec_Labels.mono _ _
   | exact LeO.none _
   | refine LeO.ite ?_ ?_
   | refine LeO.bind ?_ (fun _ => ?_)
theorem spec_Above.mono : ∀ a0 k, LeO (spec_Above.f k a0) (spec_Above.f (k + 1) a0) := by
 intro a0 k
 have ih0 := spec_Above.mono_l k
 unfold spec_Above.f
 repeat' first
   | (with_reducible first | exact ih0 _ _ _ | exact spec_JoinLabels.mono _ _ | exact spec_Labels.mono _ _ | exact LeO.refl _ | exact LeO.none _ | refine LeO.ite ?_ ?_ | refine LeO.bind ?_ (fun _ => ?_))
   | exact ih0 _ _ _
   | exact spec_JoinLabels.mono _ _
   | exact spec_Labels.mono _ _
   | exact LeO.none _
   | refine LeO.ite ?_ ?_
   | refine LeO.bind ?_ (fun _ => ?_)
set_option maxHeartbeats 8000000 in
set_option maxRecDepth 100000 in
theorem spec_Above.calls (k : Nat) (a0 : ByteArray) (r : List ByteArray) (w : World) (h : spec_Above.f k a0 = some r) :
  Calls Tryd.prog 120 #[.string a0] w fun e w' => ∃ v0_ : Value, e = .returned (v0_) ∧ Kd.R Kd.string 9 w' w.heap.size (fun _ => True) v0_ r ∧ Below w.heap.size w w' := by
 have HB := aS (Below.refl w.heap.size w)
 have H : ((spec_Labels.f k a0).bind fun t127 => (spec_Above.l0 k (([a0] : List ByteArray)) t127 1)) = some r := h
 clear h
 obtain ⟨y124, hy_⟩ : ∃ y_ : List ByteArray, y_ = (([a0] : List ByteArray)) := ⟨_, rfl⟩
 replace H : ((spec_Labels.f k a0).bind fun t127 => (spec_Above.l0 k y124 t127 1)) = some r := jD
 have Ny124 := aS hy_
 clear hy_
 replace H := Option.bind_eq_some_iff.mp H
 obtain ⟨t127, A2, H⟩ := H
 try dsimp only at H
 replace A2 := aS A2
 have H' := aS H
 clear H
 go_enter Tryd.func120, Tryd.ntmps120
 go_wp2_with (first | ((with_reducible refine gate_dst (N := 7) rfl ?_); refine Kd.R_lit Kd.string _ 9 ?hg (N := 7) ?hd (xs := ([a0] : List ByteArray)) (inner := [.string a0]) (ok := fun _ => True) (okp := fun _ => True) ?hr ?hp (fun _ hk => hk) trivial (Below.refl _ _) (Nat.le_refl _) (by simp) ?_; (case hd => rfl); (case hg => rfl); (case hr => first | (go_simp; done) | (go_simp; rfl)); (case hp => exact (Reps.one (show Kd.M Kd.string _ _ _ a0 [.string a0] from rfl) (Reps.none _ _))); intro v125 w3 ho4 hb hg_ hnew_; clear hg_ hnew_; (first | rw [← Ny124.out] at ho4 | (simp only [Int.reduceToNat] at ho4; rw [← Ny124.out] at ho4)); have n0_ := aS (Kd.R_lower ho4 (below_size (wU HB.out))); have n1_ := aS (below_step (wU HB.out) hb); clear HB; revert n0_ n1_; intro HO126 HB; clear hb ho4) | ((with_reducible refine gate_callee (f := 121) rfl ?_); refine goesL_ (some 9) rfl rfl Tryd.func121 jK rfl #[.string a0] rfl jA ?_; (with_reducible refine (spec_Labels.calls k a0 t127 _ A2.out).mono ?_); rintro e w5 ⟨v128, rfl, ho0, hb⟩; refine ⟨_, rfl, ?_⟩; have n0_ := aS (Kd.R_elder' (rU HO126.out) (Kd.R_base ho0) hb); have n1_ := aS (Kd.R_lower (Kd.R_new' ho0 (Kd.R_lt (rU HO126.out))) (below_size (wU HB.out))); have n2_ := aS (below_step (wU HB.out) hb); clear HO126 HB; revert n0_ n1_ n2_; intro HO126 HO129 HB; clear hb; (try clear ho0)))
 go_loopg [3, 5] k (fun kq v3 v5 w' => ∃ (x3_1 : List ByteArray) (x5_1 : Int), v5 = .int .i64 x5_1 ∧ Aside0 (spec_Above.l0 kq x3_1 t127 x5_1 = some r) ∧ Aside0 (kq ≤ k) ∧ Aside0 (Kd.R Kd.string 9 w' w.heap.size (fun k_ => some k_ ≠ (v128 : Value).ownBlock) v3 x3_1) ∧ Aside0 (Kd.R Kd.string 9 w' w.heap.size (fun k_ => some k_ ≠ (v3 : Value).ownBlock) v128 t127) ∧ Aside0 (Below w.heap.size w w'))
 case atStart => exact ⟨(y124), (1), jB, H', ⟨Nat.le_refl _⟩, ⟨by (with_reducible repeat (first | apply Kd.R_alloc | apply Kd.R_drewN | apply Kd.R_drew)); exact Kd.R_mono HO126.out (fun _ hk => hk.2)⟩, ⟨by (with_reducible repeat (first | apply Kd.R_alloc | apply Kd.R_drewN | apply Kd.R_drew)); exact Kd.R_mono HO129.out (fun _ hk => hk.2)⟩, ⟨by repeat (first | (with_reducible first | exact HB.out | apply below_alloc | apply pw_below_drewN | apply below_drew1) | exact HB.out)⟩⟩
 case round =>
  clear H'
  try clear c1
  try clear p2
  obtain ⟨x3_1, x5_1, rfl, HA, HK1, HO_3, HO_4, HB⟩ := hrel
  cases gk with
  | zero => exact absurd HA.out (by simp [spec_Above.l0])
  | succ k1 =>
   have H := HA.out
   clear HA
   simp only [spec_Above.l0] at H
   by_cases c6 : x5_1 ≤ (t127.length : Int)
   ·rw [if_pos c6] at H
    have c6b0 : decide (x5_1 ≤ (t127.length : Int)) = true := decide_eq_true c6
    clear c6
    by_cases c7 : 0 ≤ x5_1
    ·rw [if_pos c7] at H
     have c7b0 := eq_true c7
     have c7b1 : decide (0 ≤ x5_1) = true := decide_eq_true c7
     clear c7
     have c8b0 := eq_true (of_decide_eq_true jC : x5_1 ≤ (t127.length : Int))
     obtain ⟨y130, hy_⟩ : ∃ y_ : List ByteArray, y_ = (t127.drop (x5_1 : Int).toNat) := ⟨_, rfl⟩
     replace H : ((spec_JoinLabels.f k1 y130).bind fun t134 => (if x3_1.length < 8796093022208 then (spec_Above.l0 k1 (x3_1 ++ [t134]) t127 (wrap64 (x5_1 + 1))) else (none))) = some r := jD
     have Ny130 := aS hy_
     clear hy_
     replace H := Option.bind_eq_some_iff.mp H
     obtain ⟨t134, A9, H⟩ := H
     try dsimp only at H
     replace A9 := aS A9
     by_cases c10 : x3_1.length < 8796093022208
     ·rw [if_pos c10] at H
      have LMc10 := aS c10
      clear c10
      obtain ⟨y135, hy_⟩ : ∃ y_ : List ByteArray, y_ = (x3_1 ++ [t134]) := ⟨_, rfl⟩
      replace H : (spec_Above.l0 k1 y135 t127 (wrap64 (x5_1 + 1))) = some r := jD
      have Ny135 := aS hy_
      clear hy_
      have H' := aS H
      clear H
      obtain ⟨Ao11, co11, eo11⟩ := Kd.R_slice HO_4.out
      subst eo11
      have q12 : (x5_1 : Int) ≤ ((t127.length : Int) : Int) := of_decide_eq_true jC
      obtain ⟨i012, hi012, _, hsz12, _⟩ := info_parts info9
      have hroom12 : t127.length ≤ co11 := (Kd.R_reads' HO_4.out).2.1
      have hC12 : Kd.C Kd.string _ Ao11 t127.length t127 := (Kd.R_reads' HO_4.out).2.2
      have q012 : (0 : Int) ≤ (x5_1 : Int) := of_decide_eq_true jC
      have hcut12 := cut_from (P := Tryd.prog) 108 9 .i64 Tryd.underlying108 hi012 1 hsz12 Ao11 t127.length co11 x5_1 q012 q12
      have hr12 := Kd.C_drop (m := (x5_1 : Int).toNat) (c := co11) hC12 (by omega) hroom12
      obtain ⟨A12, hA12⟩ : ∃ A1, A1 = (if co11 = (x5_1 : Int).toNat then Ao11 else (Ao11 : Option Addr).map (·.add ((x5_1 : Int).toNat * 1))) := ⟨_, rfl⟩
      obtain ⟨c12, hc12⟩ : ∃ c1, c1 = co11 - (x5_1 : Int).toNat := ⟨_, rfl⟩
      have hy12 : y130.length = t127.length - (x5_1 : Int).toNat := (by rw [Ny130.out, List.length_drop] <;> omega)
      rw [show (t127).drop (x5_1 : Int).toNat = y130 from Ny130.out.symm] at hr12
      replace hr12 : Kd.C Kd.string _ A12 y130.length y130 := (by rw [hA12]; exact hr12)
      rw [← hy12, ← hA12, ← hc12] at hcut12
      have HR133 := aS hr12
      have HC133 := aS (show y130.length ≤ c12 from by rw [hy12, hc12]; exact Nat.sub_le_sub_right hroom12 _)
      clear hr12 hC12 hroom12 hi012 hsz12 hc12
      have KY12 := aS hy12
      have KA12 := aS hA12
      clear hy12 hA12
      have KL12 := aS (show (x5_1 : Int).toNat ≤ t127.length from by omega)
      replace q12 := eq_true q12
      go_wp2_with (first | ((with_reducible refine gate_callee (f := 147) rfl ?_); refine goesL_ (some 20) rfl rfl Tryd.func147 jK rfl #[.slice A12 y130.length c12] rfl jA ?_; (with_reducible refine (spec_JoinLabels.calls k1 _ _ y130 t134 _ ?side1 ?side2 A9.out).mono ?_); (case side1 => repeat (first | exact (by repeat (first | (with_reducible exact HR133.out) | (with_reducible refine Kd.C_alloc ?_ _) | (with_reducible refine Kd.C_drewN ?_ _) | (with_reducible refine Kd.C_drew ?_) | exact HR133.out)) | (with_reducible refine Kd.C_alloc ?_ _) | (with_reducible refine Kd.C_drewN ?_ _) | (with_reducible refine Kd.C_drew ?_))); (case side2 => exact HC133.out); rintro e w' ⟨rfl, ⟨nd, rfl⟩⟩; refine ⟨_, rfl, ?_⟩) | ((with_reducible refine gate_builtin (b := .append) (xs := #[.tmp 16, .tmp 21]) rfl ?_); at_builtin; refine Kd.R_append Kd.string (w0 := w) w.heap.size rfl (.tmp 16) (.tmp 21) 108 9 (.string ⟨#[]⟩) 16 rfl Tryd.underlying108 info9 rfl (by decide) (by omega) u3 x3_1 t134 [.string t134] (fun k_ => some k_ ≠ (.slice Ao11 t127.length co11 : Value).ownBlock) (fun _ => False) rfl rfl ?aP (fun _ hk => hk.elim) ?aF ?aO ?aB ?aS ?aL ?_; (case aP => exact rfl); (case aB => exact (wU HB.out)); (case aF => exact (fun k_ hk => Kd.fresh' (Kd.R_lt (rU HO_4.out)) k_ hk)); (case aO => exact (rU HO_3.out)); (case aS => exact (below_size (wU HB.out))); (case aL => have := LMc10.out; omega); intro v136 w13 ho hb hg hat; rw [← Ny135.out] at ho; have n0_ := aS (Kd.R_after (ok := (fun _ => True)) (by (with_reducible repeat (first | apply Kd.R_alloc | apply Kd.R_drewN | apply Kd.R_drew)); exact Kd.R_mono HO_4.out (fun _ hk => ⟨trivial, hk⟩)) hg hat); have n1_ := aS (hb); have n2_ := aS ((show Kd.C Kd.string w13 A12 y130.length y130 from by rw [Ny130.out, KA12.out]; exact Kd.C_drop (m := (x5_1 : Int).toNat) (c := co11) ((Kd.R_reads' (Kd.R_after (ok := (fun _ => True)) (by (with_reducible repeat (first | apply Kd.R_alloc | apply Kd.R_drewN | apply Kd.R_drew)); exact Kd.R_mono HO_4.out (fun _ hk => ⟨trivial, hk⟩)) hg hat)).2.2) KL12.out ((Kd.R_reads' (Kd.R_after (ok := (fun _ => True)) (by (with_reducible repeat (first | apply Kd.R_alloc | apply Kd.R_drewN | apply Kd.R_drew)); exact Kd.R_mono HO_4.out (fun _ hk => ⟨trivial, hk⟩)) hg hat)).2.1))); have n3_ := aS (ho); clear HO_4 HB HR133 HO_3; revert n0_ n1_ n2_ n3_; intro HO_4 HB HR133 HO137; clear ho hb hg hat))
      go_roundg k1
      case measure => have := HK1.out; omega
      case rel => exact ⟨(y135), (wrap64 (x5_1 + 1)), jB, H', ⟨by have := HK1.out; omega⟩, ⟨by (with_reducible repeat (first | apply Kd.R_alloc | apply Kd.R_drewN | apply Kd.R_drew)); exact HO137.out⟩, ⟨by (with_reducible repeat (first | apply Kd.R_alloc | apply Kd.R_drewN | apply Kd.R_drew)); exact Kd.R_mono HO_4.out (fun _ hk => hk.2)⟩, ⟨by repeat (first | (with_reducible first | exact HB.out | apply below_alloc | apply pw_below_drewN | apply below_drew1) | exact HB.out)⟩⟩
     ·rw [if_neg c10] at H
      exact absurd H (by simp)
    ·rw [if_neg c7] at H
     exact absurd H (by simp)
   ·rw [if_neg c6] at H
    have c6b0 : decide (x5_1 ≤ (t127.length : Int)) = false := decide_eq_false c6
    clear c6
    obtain rfl := Option.some.inj H
    obtain ⟨Ao14, co14, eo14⟩ := Kd.R_slice HO_4.out
    subst eo14
    go_wp2
    go_ret
    exact ⟨_, jE, Kd.R_mono (rU HO_3.out) (fun _ hk => trivial), by repeat (first | (with_reducible first | exact HB.out | apply below_alloc | apply pw_below_drewN | apply below_drew1) | exact HB.out)⟩

/-! ### spec_Fold: function 162 -/
def spec_Fold.f (a0 : ByteArray) : Option (ByteArray) := if a0.size ≤ 140737488355328 then some (strOfNums ((bytesOf a0).map X.foldB)) else none
set_option maxHeartbeats 1000000 in
theorem spec_Fold.calls (a0 : ByteArray) (r : ByteArray) (w : World) (h : spec_Fold.f a0 = some r) :
  Calls Tryd.prog 162 #[.string a0] w fun e w' => e = .returned (.string r) ∧ Below w.heap.size w w' := by
 have hs : a0.size ≤ 140737488355328 := by
  rcases Nat.lt_or_ge 140737488355328 a0.size with q | q
  ·rw [spec_Fold.f, if_neg (by omega)] at h; cases h
  ·exact q
 have hr : strOfNums ((bytesOf a0).map X.foldB) = r := by rw [spec_Fold.f, if_pos hs] at h; exact Option.some.inj h
 clear h
 have hconv : ∀ (W : World) (s : ByteArray), (convert 9 22 (.string s)).run Tryd.prog W = .ok (.slice (some ⟨W.heap.size, 0, none⟩) s.size (grownCap W s.size 0 5)) (Lib.bytesWorld W 5 s) := fun W s => Lib.run_convert_string_bytes (P := Tryd.prog) W 9 22 5 s Tryd.underlying9 Tryd.underlying22 Tryd.underlying5
 have H1 := Aside0.mk (X.Row8.new w 5 a0)
 have HB := Aside0.mk (X.below_bytesWorld w 5 a0)
 have HR := Aside0.mk hr
 have HL := Aside0.mk (bytesOf_length a0)
 clear hr
 go_enter Tryd.func162, Tryd.ntmps162
 go_wp2
 go_loopw [4] (fun v10 wr => ∃ i : Nat, i ≤ a0.size ∧ v10 = .int .i64 i ∧ Aside0 (X.Row8 wr w.heap.size a0.size (X.foldTo (bytesOf a0) i)) ∧ Aside0 (Below w.heap.size w wr)) (fun v10 _ => a0.size - (intOf v10).toNat)
 case atStart => exact ⟨0, Nat.zero_le _, rfl, ⟨by simpa [X.foldTo] using H1.out⟩, HB⟩
 case round =>
  obtain ⟨i, hi, rfl, HI, HB⟩ := hrel
  by_cases hlt : i < a0.size
  ·obtain ⟨c, hc⟩ : ∃ c, rd (bytesOf a0) i = c := ⟨_, rfl⟩
   have hcell := HI.out.cell i hlt
   rw [X.foldTo_rd _ _ (by rw [HL.out]; exact hlt), hc] at hcell
   have hfree := HI.out.free i hlt
   have hcb := X.rd_byte (X.bytes_bytesOf a0) (i : Int)
   rw [hc] at hcb
   obtain ⟨hc0, hc1⟩ := hcb
   have HC := Aside0.mk hc
   clear hc
   by_cases h65 : 65 ≤ c
   ·by_cases h90 : c ≤ 90
    ·have HE := Aside0.mk (show X.foldB c = c + 32 from if_pos ⟨h65, h90⟩)
     have HS := Aside0.mk (show spec_l1In.f c 65 90 = some true by unfold spec_l1In.f; rw [if_pos h65, decide_eq_true h90])
     go_wp2_with (go_at_call 86; refine (spec_l1In.calls c 65 90 true _ HS.out).mono ?_; rintro e w' ⟨rfl, ⟨nd, rfl⟩⟩)
     go_roundw
     case rel => exact ⟨i + 1, by omega, by go_num, ⟨X.Row8.fold (X.Row8.drewN HI.out _) HL.out hlt HC.out HE.out⟩, ⟨(pw_below_drewN HB.out _).setCell (Nat.le_refl _) _⟩⟩
     case measure => simp [intOf]; omega
    ·have HE := Aside0.mk (X.foldTo_same (bytesOf a0) i (by rw [HL.out]; exact hlt) (by rw [HC.out]; exact if_neg (fun q => h90 q.2)))
     have HS := Aside0.mk (show spec_l1In.f c 65 90 = some false by unfold spec_l1In.f; rw [if_pos h65, decide_eq_false h90])
     go_wp2_with (go_at_call 86; refine (spec_l1In.calls c 65 90 false _ HS.out).mono ?_; rintro e w' ⟨rfl, ⟨nd, rfl⟩⟩)
     go_roundw
     case rel => exact ⟨i + 1, by omega, by go_num, ⟨by rw [← HE.out]; exact X.Row8.drewN HI.out _⟩, ⟨pw_below_drewN HB.out _⟩⟩
     case measure => simp [intOf]; omega
   ·have HE := Aside0.mk (X.foldTo_same (bytesOf a0) i (by rw [HL.out]; exact hlt) (by rw [HC.out]; exact if_neg (fun q => h65 q.1)))
    have HS := Aside0.mk (show spec_l1In.f c 65 90 = some false by unfold spec_l1In.f; rw [if_neg h65])
    go_wp2_with (go_at_call 86; refine (spec_l1In.calls c 65 90 false _ HS.out).mono ?_; rintro e w' ⟨rfl, ⟨nd, rfl⟩⟩)
    go_roundw
    case rel => exact ⟨i + 1, by omega, by go_num, ⟨by rw [← HE.out]; exact X.Row8.drewN HI.out _⟩, ⟨pw_below_drewN HB.out _⟩⟩
    case measure => simp [intOf]; omega
  ·obtain rfl : i = a0.size := by omega
   have hback := run_convert_bytes_arg (P := Tryd.prog) wr 22 5 Tryd.underlying22 Tryd.underlying5 w.heap.size 0 a0.size (grownCap w a0.size 0 5) (X.foldTo (bytesOf a0) a0.size) HI.out.len (fun j hj => by rw [Nat.zero_add, HI.out.cell j hj]; rfl) 9 Tryd.underlying9
   go_wp2
   go_ret
   exact ⟨by rw [← HR.out, ← HL.out, X.foldTo_all]; rfl, HB.out⟩


/-! ### spec_GetLabel: function 150 -/
mutual
def spec_GetLabel.j0 : Nat → List Int → Int → Bool → Option (ByteArray × Int × Bool)
 | 0, _, _, _ => none
 | k + 1, x0, x1, x16 => if x16 = true then (some ((⟨#[]⟩ : ByteArray), 0, false)) else (if 0 ≤ x1 then (if x1 < (x0.length : Int) then ((spec_l1In.f (wrap64 (rd x0 x1)) 1 12).bind fun t139 => (if t139 = true then (spec_GetLabel.j1 k x0 x1 (wrap64 (rd x0 x1)) (decide ((wrap64 (rd x0 x1)) > (wrap64 ((wrap64 ((x0.length : Int) - x1)) - 1))))) else (spec_GetLabel.j1 k x0 x1 (wrap64 (rd x0 x1)) true))) else (none)) else (none))
def spec_GetLabel.j1 : Nat → List Int → Int → Int → Bool → Option (ByteArray × Int × Bool)
 | 0, _, _, _, _ => none
 | k + 1, x0, x1, x7, x33 => if x33 = true then (some ((⟨#[]⟩ : ByteArray), 0, false)) else (if 0 ≤ (wrap64 (x1 + 1)) then (if (wrap64 (x1 + 1)) ≤ (wrap64 ((wrap64 (x1 + 1)) + x7)) then (if (wrap64 ((wrap64 (x1 + 1)) + x7)) ≤ (x0.length : Int) then ((spec_Fold.f (strOfNums ((x0.take ((wrap64 ((wrap64 (x1 + 1)) + x7)) : Int).toNat).drop ((wrap64 (x1 + 1)) : Int).toNat))).bind fun t144 => ((spec_LabelOk.f k t144).bind fun t145 => (if t145 = true then (some (t144, wrap64 ((wrap64 (x1 + 1)) + x7), true)) else (some ((⟨#[]⟩ : ByteArray), 0, false))))) else (none)) else (none)) else (none))
end
def spec_GetLabel.f (k : Nat) (l0 : List Int) (a1 : Int) : Option (ByteArray × Int × Bool) := if a1 < 0 then (spec_GetLabel.j0 k l0 a1 true) else (spec_GetLabel.j0 k l0 a1 (decide (a1 ≥ (l0.length : Int))))
theorem spec_GetLabel.mono_l : ∀ k, (∀ y0 y1 y2, LeO (spec_GetLabel.j0 k y0 y1 y2) (spec_GetLabel.j0 (k + 1) y0 y1 y2)) ∧ (∀ y0 y1 y2 y3, LeO (spec_GetLabel.j1 k y0 y1 y2 y3) (spec_GetLabel.j1 (k + 1) y0 y1 y2 y3))
 | 0 => ⟨fun _ _ _ r h => by simp [spec_GetLabel.j0] at h, fun _ _ _ _ r h => by simp [spec_GetLabel.j1] at h⟩
 | k + 1 => by
  obtain ⟨ih0, ih1⟩ := spec_GetLabel.mono_l k
  refine ⟨?_, ?_⟩
  ·intro y0 y1 y2
   unfold spec_GetLabel.j0
   repeat' first
   | (with_reducible first | exact ih0 _ _ _ | exact ih1 _ _ _ _ | exact spec_LabelOk.mono _ _ | exact LeO.refl _ | exact LeO.none _ | refine LeO.ite ?_ ?_ | refine LeO.bind ?_ (fun _ => ?_))
   | exact ih0 _ _ _
   | exact ih1 _ _ _ _
   | exact spec_LabelOk.mono _ _
   | exact LeO.none _
   | refine LeO.ite ?_ ?_
   | refine LeO.bind ?_ (fun _ => ?_)
  ·intro y0 y1 y2 y3
   unfold spec_GetLabel.j1
   repeat' first
   | (with_reducible first | exact ih0 _ _ _ | exact ih1 _ _ _ _ | exact spec_LabelOk.mono _ _ | exact LeO.refl _ | exact LeO.none _ | refine LeO.ite ?_ ?_ | refine LeO.bind ?_ (fun _ => ?_))
   | exact ih0 _ _ _
   | exact ih1 _ _ _ _
   | exact spec_LabelOk.mono _ _
   | exact LeO.none _
   | refine LeO.ite ?_ ?_
   | refine LeO.bind ?_ (fun _ => ?_)
theorem spec_GetLabel.mono : ∀ a0 a1 k, LeO (spec_GetLabel.f k a0 a1) (spec_GetLabel.f (k + 1) a0 a1) := by
 intro a0 a1 k
 obtain ⟨ih0, ih1⟩ := spec_GetLabel.mono_l k
 unfold spec_GetLabel.f
 repeat' first
   | (with_reducible first | exact ih0 _ _ _ | exact ih1 _ _ _ _ | exact spec_LabelOk.mono _ _ | exact LeO.refl _ | exact LeO.none _ | refine LeO.ite ?_ ?_ | refine LeO.bind ?_ (fun _ => ?_))
   | exact ih0 _ _ _
   | exact ih1 _ _ _ _
   | exact spec_LabelOk.mono _ _
   | exact LeO.none _
   | refine LeO.ite ?_ ?_
   | refine LeO.bind ?_ (fun _ => ?_)
set_option maxHeartbeats 8000000 in
set_option maxRecDepth 100000 in
theorem spec_GetLabel.calls (k : Nat) (A0 : Option Addr) (c0 : Nat) (l0 : List Int) (a1 : Int) (r1 : ByteArray) (r2 : Int) (r3 : Bool) (w : World) (hr0 : Kd.C (Kd.int .u8) w A0 l0.length l0) (hc0 : l0.length ≤ c0) (h : spec_GetLabel.f k l0 a1 = some (r1, r2, r3)) :
  Calls Tryd.prog 150 #[.slice A0 l0.length c0, .int .i64 a1] w fun e w' => e = .returned (.tuple #[.string r1, .int .i64 r2, .bool r3]) ∧ Below w.heap.size w w' := by
 have HR0 := aS hr0
 have HC0 := aS hc0
 clear hr0 hc0
 have HB := aS (Below.refl w.heap.size w)
 have H : (if a1 < 0 then (spec_GetLabel.j0 k l0 a1 true) else (spec_GetLabel.j0 k l0 a1 (decide (a1 ≥ (l0.length : Int))))) = some (r1, r2, r3) := h
 clear h
 have HC3 := aS H
 clear H
 go_enter Tryd.func150, Tryd.ntmps150
 go_upto_region 1 with (fail)
 go_cut [16] (fun v16 wc => ∃ (kq : Nat) (x16_2 : Bool), v16 = .bool x16_2 ∧ Aside0 (spec_GetLabel.j0 kq l0 a1 x16_2 = some (r1, r2, r3)) ∧ Aside0 (kq ≤ k) ∧ Aside0 (Below w.heap.size w wc))
 case first =>
  have H := HC3.out
  clear HC3
  by_cases c4 : a1 < 0
  ·rw [if_pos c4] at H
   have c4b0 : decide (a1 < 0) = true := decide_eq_true c4
   clear c4
   (first | rw [c4b0] | (simp only [i64_w, i32_w]; rw [c4b0]) | skip)
   have H' := aS H
   clear H
   go_wp2
   go_meet
   case rel => exact ⟨_, (true), jB, H', ⟨by first | omega | exact Nat.le_refl _⟩, ⟨by repeat (first | (with_reducible first | exact HB.out | apply below_alloc | apply pw_below_drewN | apply below_drew1) | exact HB.out)⟩⟩
  ·rw [if_neg c4] at H
   have c4b0 : decide (a1 < 0) = false := decide_eq_false c4
   clear c4
   (first | rw [c4b0] | (simp only [i64_w, i32_w]; rw [c4b0]) | skip)
   have H' := aS H
   clear H
   go_wp2
   go_meet
   case rel => exact ⟨_, (decide (a1 ≥ (l0.length : Int))), jB, H', ⟨by first | omega | exact Nat.le_refl _⟩, ⟨by repeat (first | (with_reducible first | exact HB.out | apply below_alloc | apply pw_below_drewN | apply below_drew1) | exact HB.out)⟩⟩
 case rest =>
  clear HC3
  try clear c1
  try clear p2
  try clear c4
  try clear c4b0
  obtain ⟨kq, x16_2, rfl, HA, HJ2, HB⟩ := hcut
  cases kq with
  | zero => exact absurd HA.out (by simp [spec_GetLabel.j0])
  | succ kj2 =>
   have H := HA.out
   clear HA
   simp only [spec_GetLabel.j0] at H
   by_cases c5 : x16_2 = true
   ·subst c5
    have H1 : (some ((⟨#[]⟩ : ByteArray), 0, false)) = some (r1, r2, r3) := by rw [if_pos rfl] at H; exact H
    clear H
    have H := H1
    clear H1
    simp only [Option.some.injEq, Prod.mk.injEq] at H
    obtain ⟨rfl, rfl, rfl⟩ := H
    go_wp2
    go_ret3
    exact ⟨jE, by repeat (first | (with_reducible first | exact HB.out | apply below_alloc | apply pw_below_drewN | apply below_drew1) | exact HB.out)⟩
   ·replace c5 := Bool.eq_false_iff.mpr c5
    subst c5
    have H1 : (if 0 ≤ a1 then (if a1 < (l0.length : Int) then ((spec_l1In.f (wrap64 (rd l0 a1)) 1 12).bind fun t139 => (if t139 = true then (spec_GetLabel.j1 kj2 l0 a1 (wrap64 (rd l0 a1)) (decide ((wrap64 (rd l0 a1)) > (wrap64 ((wrap64 ((l0.length : Int) - a1)) - 1))))) else (spec_GetLabel.j1 kj2 l0 a1 (wrap64 (rd l0 a1)) true))) else (none)) else (none)) = some (r1, r2, r3) := by rw [if_neg (show ¬ (false = true) by decide)] at H; exact H
    clear H
    have H := H1
    clear H1
    by_cases c6 : 0 ≤ a1
    ·rw [if_pos c6] at H
     have c6b0 : decide (0 ≤ a1) = true := decide_eq_true c6
     clear c6
     by_cases c7 : a1 < (l0.length : Int)
     ·rw [if_pos c7] at H
      have c7b0 : decide (a1 < (l0.length : Int)) = true := decide_eq_true c7
      clear c7
      have HC8 := aS H
      clear H
      have p138 : 0 ≤ (a1 : Int) := of_decide_eq_true jC
      have q138 : a1 < (l0.length : Int) := of_decide_eq_true jC
      obtain ⟨ad138, e138, hx138_0⟩ := Kd.at_int HR0.out a1 p138 q138
      cases e138
      try replace hx138_0 := (HB.out.cell (World.block_lt_of_cell? w _ hx138_0)).trans hx138_0
      replace p138 := eq_true p138
      replace q138 := eq_true q138
      go_upto_region 4 with (fail)
      go_cut [33] (fun v33 wc => ∃ (kq : Nat) (x33_7 : Bool), v33 = .bool x33_7 ∧ Aside0 (spec_GetLabel.j1 kq l0 a1 (wrap64 (rd l0 a1)) x33_7 = some (r1, r2, r3)) ∧ Aside0 (kq ≤ kj2) ∧ Aside0 (Below w.heap.size w wc))
      case first =>
       have H := HC8.out
       clear HC8
       replace H := Option.bind_eq_some_iff.mp H
       obtain ⟨t139, A9, H⟩ := H
       try dsimp only at H
       replace A9 := aS A9
       by_cases c10 : t139 = true
       ·subst c10
        have H1 : (spec_GetLabel.j1 kj2 l0 a1 (wrap64 (rd l0 a1)) (decide ((wrap64 (rd l0 a1)) > (wrap64 ((wrap64 ((l0.length : Int) - a1)) - 1))))) = some (r1, r2, r3) := by rw [if_pos rfl] at H; exact H
        clear H
        have H := H1
        clear H1
        have H' := aS H
        clear H
        go_wp2_with (first | ((with_reducible refine gate_callee (f := 86) rfl ?_); refine goesL_ (some 23) rfl rfl Tryd.func86 jK rfl #[.int .i64 (wrap64 (rd l0 a1)), .int .i64 1, .int .i64 12] rfl jA ?_; (with_reducible refine (spec_l1In.calls (wrap64 (rd l0 a1)) 1 12 true _ A9.out).mono ?_); rintro e w' ⟨rfl, ⟨nd, rfl⟩⟩; refine ⟨_, rfl, ?_⟩))
        go_meet
        case rel => exact ⟨_, (decide ((wrap64 (rd l0 a1)) > (wrap64 ((wrap64 ((l0.length : Int) - a1)) - 1)))), jB, H', ⟨by have := HJ2.out; first | omega | exact Nat.le_refl _⟩, ⟨by repeat (first | (with_reducible first | exact HB.out | apply below_alloc | apply pw_below_drewN | apply below_drew1) | exact HB.out)⟩⟩
       ·replace c10 := Bool.eq_false_iff.mpr c10
        subst c10
        have H1 : (spec_GetLabel.j1 kj2 l0 a1 (wrap64 (rd l0 a1)) true) = some (r1, r2, r3) := by rw [if_neg (show ¬ (false = true) by decide)] at H; exact H
        clear H
        have H := H1
        clear H1
        have H' := aS H
        clear H
        go_wp2_with (first | ((with_reducible refine gate_callee (f := 86) rfl ?_); refine goesL_ (some 23) rfl rfl Tryd.func86 jK rfl #[.int .i64 (wrap64 (rd l0 a1)), .int .i64 1, .int .i64 12] rfl jA ?_; (with_reducible refine (spec_l1In.calls (wrap64 (rd l0 a1)) 1 12 false _ A9.out).mono ?_); rintro e w' ⟨rfl, ⟨nd, rfl⟩⟩; refine ⟨_, rfl, ?_⟩))
        go_meet
        case rel => exact ⟨_, (true), jB, H', ⟨by have := HJ2.out; first | omega | exact Nat.le_refl _⟩, ⟨by repeat (first | (with_reducible first | exact HB.out | apply below_alloc | apply pw_below_drewN | apply below_drew1) | exact HB.out)⟩⟩
      case rest =>
       clear HC8
       try clear c1
       try clear p1
       try clear q1
       try clear hx1
       try clear p2
       try clear c4
       try clear c4b0
       try clear c5
       try clear c6
       try clear c6b0
       try clear p6
       try clear c7
       try clear c7b0
       try clear c8
       try clear c10
       try clear hx138_0
       try clear p138
       try clear p2
       try clear q138
       obtain ⟨kq, x33_7, rfl, HA, HJ7, HB⟩ := hcut
       cases kq with
       | zero => exact absurd HA.out (by simp [spec_GetLabel.j1])
       | succ kj7 =>
        have H := HA.out
        clear HA
        simp only [spec_GetLabel.j1] at H
        by_cases c11 : x33_7 = true
        ·subst c11
         have H1 : (some ((⟨#[]⟩ : ByteArray), 0, false)) = some (r1, r2, r3) := by rw [if_pos rfl] at H; exact H
         clear H
         have H := H1
         clear H1
         simp only [Option.some.injEq, Prod.mk.injEq] at H
         obtain ⟨rfl, rfl, rfl⟩ := H
         go_wp2
         go_ret3
         exact ⟨jE, by repeat (first | (with_reducible first | exact HB.out | apply below_alloc | apply pw_below_drewN | apply below_drew1) | exact HB.out)⟩
        ·replace c11 := Bool.eq_false_iff.mpr c11
         subst c11
         have H1 : (if 0 ≤ (wrap64 (a1 + 1)) then (if (wrap64 (a1 + 1)) ≤ (wrap64 ((wrap64 (a1 + 1)) + (wrap64 (rd l0 a1)))) then (if (wrap64 ((wrap64 (a1 + 1)) + (wrap64 (rd l0 a1)))) ≤ (l0.length : Int) then ((spec_Fold.f (strOfNums ((l0.take ((wrap64 ((wrap64 (a1 + 1)) + (wrap64 (rd l0 a1)))) : Int).toNat).drop ((wrap64 (a1 + 1)) : Int).toNat))).bind fun t144 => ((spec_LabelOk.f kj7 t144).bind fun t145 => (if t145 = true then (some (t144, wrap64 ((wrap64 (a1 + 1)) + (wrap64 (rd l0 a1))), true)) else (some ((⟨#[]⟩ : ByteArray), 0, false))))) else (none)) else (none)) else (none)) = some (r1, r2, r3) := by rw [if_neg (show ¬ (false = true) by decide)] at H; exact H
         clear H
         have H := H1
         clear H1
         obtain ⟨ji12, hji12⟩ : ∃ j_ : Int, (wrap64 (a1 + 1)) = j_ := ⟨_, rfl⟩
         replace H : (if 0 ≤ (ji12) then (if (ji12) ≤ (wrap64 ((ji12) + (wrap64 (rd l0 a1)))) then (if (wrap64 ((ji12) + (wrap64 (rd l0 a1)))) ≤ (l0.length : Int) then ((spec_Fold.f (strOfNums ((l0.take ((wrap64 ((ji12) + (wrap64 (rd l0 a1)))) : Int).toNat).drop ((ji12) : Int).toNat))).bind fun t144 => ((spec_LabelOk.f kj7 t144).bind fun t145 => (if t145 = true then (some (t144, wrap64 ((ji12) + (wrap64 (rd l0 a1))), true)) else (some ((⟨#[]⟩ : ByteArray), 0, false))))) else (none)) else (none)) else (none)) = some (r1, r2, r3) := by first | (rw [hji12] at H; exact H) | (simp only [hji12] at H ⊢; exact H)
         have hji12w : (IntKind.i64.wrap (a1 + 1)) = ji12 := (i64_w _).trans hji12
         by_cases c13 : 0 ≤ (ji12)
         ·rw [if_pos c13] at H
          have c13b0 := eq_true c13
          have c13b1 : decide (0 ≤ (ji12)) = true := decide_eq_true c13
          clear c13
          by_cases c14 : (ji12) ≤ (wrap64 ((ji12) + (wrap64 (rd l0 a1))))
          ·rw [if_pos c14] at H
           have c14b0 := eq_true c14
           have c14b1 : decide ((ji12) ≤ (wrap64 ((ji12) + (wrap64 (rd l0 a1))))) = true := decide_eq_true c14
           by_cases c15 : (wrap64 ((ji12) + (wrap64 (rd l0 a1)))) ≤ (l0.length : Int)
           ·rw [if_pos c15] at H
            have c15b0 := eq_true c15
            have c15b1 : decide ((wrap64 ((ji12) + (wrap64 (rd l0 a1)))) ≤ (l0.length : Int)) = true := decide_eq_true c15
            obtain ⟨y140, hy_⟩ : ∃ y_ : List Int, y_ = ((l0.take ((wrap64 ((ji12) + (wrap64 (rd l0 a1)))) : Int).toNat).drop ((ji12) : Int).toNat) := ⟨_, rfl⟩
            replace H : ((spec_Fold.f (strOfNums y140)).bind fun t144 => ((spec_LabelOk.f kj7 t144).bind fun t145 => (if t145 = true then (some (t144, wrap64 ((ji12) + (wrap64 (rd l0 a1))), true)) else (some ((⟨#[]⟩ : ByteArray), 0, false))))) = some (r1, r2, r3) := jD
            have Ny140 := aS hy_
            clear hy_
            replace H := Option.bind_eq_some_iff.mp H
            obtain ⟨t144, A16, H⟩ := H
            try dsimp only at H
            replace A16 := aS A16
            replace H := Option.bind_eq_some_iff.mp H
            obtain ⟨t145, A17, H⟩ := H
            try dsimp only at H
            replace A17 := aS A17
            by_cases c18 : t145 = true
            ·subst c18
             have H1 : (some (t144, wrap64 ((ji12) + (wrap64 (rd l0 a1))), true)) = some (r1, r2, r3) := by rw [if_pos rfl] at H; exact H
             clear H
             have H := H1
             clear H1
             simp only [Option.some.injEq, Prod.mk.injEq] at H
             obtain ⟨rfl, rfl, rfl⟩ := H
             have q19 : ((wrap64 ((ji12) + (wrap64 (rd l0 a1)))) : Int) ≤ ((l0.length : Int) : Int) := of_decide_eq_true jC
             obtain ⟨i019, hi019, _, hsz19, _⟩ := info_parts info5
             have hroom19 : l0.length ≤ c0 := HC0.out
             have hC19 : Kd.C (Kd.int .u8) _ (some ad138) l0.length l0 := HR0.out
             have ql19 : ((ji12) : Int) ≤ ((wrap64 ((ji12) + (wrap64 (rd l0 a1)))) : Int) := of_decide_eq_true jC
             have q019 : (0 : Int) ≤ ((ji12) : Int) := of_decide_eq_true jC
             have hcut19 := cut_mid (P := Tryd.prog) 22 5 .i64 .i64 Tryd.underlying22 hi019 1 hsz19 (some ad138) l0.length c0 (ji12) (wrap64 ((ji12) + (wrap64 (rd l0 a1)))) q019 ql19 q19 hroom19
             have hr19 := Kd.C_mid (lo := ((ji12) : Int).toNat) (hi := ((wrap64 ((ji12) + (wrap64 (rd l0 a1)))) : Int).toNat) (c := c0) hC19 (by omega) (by omega) hroom19
             obtain ⟨A19, hA19⟩ : ∃ A1, A1 = (if c0 = ((ji12) : Int).toNat then (some ad138) else ((some ad138) : Option Addr).map (·.add (((ji12) : Int).toNat * 1))) := ⟨_, rfl⟩
             obtain ⟨c19, hc19⟩ : ∃ c1, c1 = c0 - ((ji12) : Int).toNat := ⟨_, rfl⟩
             have hy19 : y140.length = ((wrap64 ((ji12) + (wrap64 (rd l0 a1)))) : Int).toNat - ((ji12) : Int).toNat := (by rw [Ny140.out, List.length_drop, List.length_take] <;> omega)
             rw [show ((l0).take ((wrap64 ((ji12) + (wrap64 (rd l0 a1)))) : Int).toNat).drop ((ji12) : Int).toNat = y140 from Ny140.out.symm] at hr19
             replace hr19 : Kd.C (Kd.int .u8) _ A19 y140.length y140 := (by rw [hA19]; exact hr19)
             rw [← hy19, ← hA19, ← hc19] at hcut19
             have HR143 := aS hr19
             have HC143 := aS (show y140.length ≤ c19 from by rw [hy19, hc19]; exact Nat.sub_le_sub_right (Nat.le_trans (by omega) hroom19) _)
             clear hr19 hC19 hroom19 hi019 hsz19 hc19
             have KY19 := aS hy19
             have KA19 := aS hA19
             clear hy19 hA19
             replace q19 := eq_true q19
             have hcv20 := Kd.C_string (P := Tryd.prog) (A := A19) (c := c19) Tryd.underlying22 Tryd.underlying5 Tryd.underlying9 (Kd.C_below HR143.out HB.out)
             go_wp2_with (first | ((with_reducible refine gate_callee (f := 162) rfl ?_); refine goesL_ (some 43) rfl rfl Tryd.func162 jK rfl #[.string (strOfNums y140)] rfl jA ?_; (with_reducible refine (spec_Fold.calls (strOfNums y140) t144 _ A16.out).mono ?_); rintro e w21 ⟨rfl, hb⟩; refine ⟨_, rfl, ?_⟩; have n0_ := aS (below_step (wU HB.out) hb); clear HB; revert n0_; intro HB; clear hb) | ((with_reducible refine gate_callee (f := 144) rfl ?_); refine goesL_ (some 45) rfl rfl Tryd.func144 jK rfl #[.string t144] rfl jA ?_; (with_reducible refine (spec_LabelOk.calls kj7 t144 true _ A17.out).mono ?_); rintro e w' ⟨rfl, ⟨nd, rfl⟩⟩; refine ⟨_, rfl, ?_⟩))
             go_ret3
             exact ⟨by first | rfl | (simp [errW_none, errW_some] <;> rfl) | (simp only [← hji12]; first | rfl | (simp [errW_none, errW_some] <;> rfl)) | (simp [*, errW_none, errW_some] <;> rfl), by repeat (first | (with_reducible first | exact HB.out | apply below_alloc | apply pw_below_drewN | apply below_drew1) | exact HB.out)⟩
            ·replace c18 := Bool.eq_false_iff.mpr c18
             subst c18
             have H1 : (some ((⟨#[]⟩ : ByteArray), 0, false)) = some (r1, r2, r3) := by rw [if_neg (show ¬ (false = true) by decide)] at H; exact H
             clear H
             have H := H1
             clear H1
             simp only [Option.some.injEq, Prod.mk.injEq] at H
             obtain ⟨rfl, rfl, rfl⟩ := H
             have q22 : ((wrap64 ((ji12) + (wrap64 (rd l0 a1)))) : Int) ≤ ((l0.length : Int) : Int) := of_decide_eq_true jC
             obtain ⟨i022, hi022, _, hsz22, _⟩ := info_parts info5
             have hroom22 : l0.length ≤ c0 := HC0.out
             have hC22 : Kd.C (Kd.int .u8) _ (some ad138) l0.length l0 := HR0.out
             have ql22 : ((ji12) : Int) ≤ ((wrap64 ((ji12) + (wrap64 (rd l0 a1)))) : Int) := of_decide_eq_true jC
             have q022 : (0 : Int) ≤ ((ji12) : Int) := of_decide_eq_true jC
             have hcut22 := cut_mid (P := Tryd.prog) 22 5 .i64 .i64 Tryd.underlying22 hi022 1 hsz22 (some ad138) l0.length c0 (ji12) (wrap64 ((ji12) + (wrap64 (rd l0 a1)))) q022 ql22 q22 hroom22
             have hr22 := Kd.C_mid (lo := ((ji12) : Int).toNat) (hi := ((wrap64 ((ji12) + (wrap64 (rd l0 a1)))) : Int).toNat) (c := c0) hC22 (by omega) (by omega) hroom22
             obtain ⟨A22, hA22⟩ : ∃ A1, A1 = (if c0 = ((ji12) : Int).toNat then (some ad138) else ((some ad138) : Option Addr).map (·.add (((ji12) : Int).toNat * 1))) := ⟨_, rfl⟩
             obtain ⟨c22, hc22⟩ : ∃ c1, c1 = c0 - ((ji12) : Int).toNat := ⟨_, rfl⟩
             have hy22 : y140.length = ((wrap64 ((ji12) + (wrap64 (rd l0 a1)))) : Int).toNat - ((ji12) : Int).toNat := (by rw [Ny140.out, List.length_drop, List.length_take] <;> omega)
             rw [show ((l0).take ((wrap64 ((ji12) + (wrap64 (rd l0 a1)))) : Int).toNat).drop ((ji12) : Int).toNat = y140 from Ny140.out.symm] at hr22
             replace hr22 : Kd.C (Kd.int .u8) _ A22 y140.length y140 := (by rw [hA22]; exact hr22)
             rw [← hy22, ← hA22, ← hc22] at hcut22
             have HR143 := aS hr22
             have HC143 := aS (show y140.length ≤ c22 from by rw [hy22, hc22]; exact Nat.sub_le_sub_right (Nat.le_trans (by omega) hroom22) _)
             clear hr22 hC22 hroom22 hi022 hsz22 hc22
             have KY22 := aS hy22
             have KA22 := aS hA22
             clear hy22 hA22
             replace q22 := eq_true q22
             have hcv23 := Kd.C_string (P := Tryd.prog) (A := A22) (c := c22) Tryd.underlying22 Tryd.underlying5 Tryd.underlying9 (Kd.C_below HR143.out HB.out)
             go_wp2_with (first | ((with_reducible refine gate_callee (f := 162) rfl ?_); refine goesL_ (some 43) rfl rfl Tryd.func162 jK rfl #[.string (strOfNums y140)] rfl jA ?_; (with_reducible refine (spec_Fold.calls (strOfNums y140) t144 _ A16.out).mono ?_); rintro e w24 ⟨rfl, hb⟩; refine ⟨_, rfl, ?_⟩; have n0_ := aS (below_step (wU HB.out) hb); clear HB; revert n0_; intro HB; clear hb) | ((with_reducible refine gate_callee (f := 144) rfl ?_); refine goesL_ (some 45) rfl rfl Tryd.func144 jK rfl #[.string t144] rfl jA ?_; (with_reducible refine (spec_LabelOk.calls kj7 t144 false _ A17.out).mono ?_); rintro e w' ⟨rfl, ⟨nd, rfl⟩⟩; refine ⟨_, rfl, ?_⟩))
             go_ret3
             exact ⟨by first | rfl | (simp [errW_none, errW_some] <;> rfl) | (simp only [← hji12]; first | rfl | (simp [errW_none, errW_some] <;> rfl)) | (simp [*, errW_none, errW_some] <;> rfl), by repeat (first | (with_reducible first | exact HB.out | apply below_alloc | apply pw_below_drewN | apply below_drew1) | exact HB.out)⟩
           ·rw [if_neg c15] at H
            exact absurd H (by simp)
          ·rw [if_neg c14] at H
           exact absurd H (by simp)
         ·rw [if_neg c13] at H
          exact absurd H (by simp)
     ·rw [if_neg c7] at H
      exact absurd H (by simp)
    ·rw [if_neg c6] at H
     exact absurd H (by simp)

end Go.Proofs.YtdigilidomimdaaDoor.Pr
