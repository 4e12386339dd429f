/- The walks of slices.SortStableFunc's family at records, text 3: over any program that bears these bodies. Printed by a program of this session. Conditions: as written at each theorem. -/
import Derived.Test.YtfmnofjijodgcaaDoorSw1
namespace Go.Proofs.YtfmnofjijodgcaaDoor.Sw
set_option linter.unusedSimpArgs false
set_option linter.unusedSectionVars false
set_option linter.unusedVariables false
open Go.Proofs Go.Shelf Go.RowKit Go.Lib Go.Sort Go.Proofs.YtfmnofjijodgcaaDoor.Sm
variable {P : Program} {α : Type} [Inhabited α]
set_option maxHeartbeats 4000000 in
set_option maxRecDepth 1000000 in
theorem insertion {k : Nat} (S : Bare P k) (enc : α → List Value) (g : Nat) (cb : Array Value) (blk off cap a b : Nat) (d0 d : Array α) (w0 w : World) (R : RowK enc k w0 blk off d0) (hs : d0.size = d.size) (T : SWD enc k w0 blk off d w) (ok : α → Prop) (cf : α → α → Int) (eg : ∀ args w, (callFunc g args).run P w = .ok (.enter g args) w) (hcmp : CmpB P g cb enc ok cf) (hok : ∀ i, i < d.size → ok d[i]!) (hab : a ≤ b) (hb : b ≤ d.size) (hsz : d.size < 4611686018427387904) :
    Calls P 135 #[.slice (some ⟨blk, off, none⟩) d.size cap, .int .i64 a, .int .i64 b, .func (.func g) #[] cb] w fun e w' => e = .returned (.tuple #[]) ∧ SWD enc k w0 blk off (Sort.insertionSort (ltOf cf) d a b) w' := by
  have mixed := S.mixed; have aE := S.aE; have zE := S.zE; have t0 := S.t0; have a0 := S.a0; have z0 := S.z0; have v0 := S.v0; have t3 := S.t3; have a3 := S.a3; have z3 := S.z3; have v3 := S.v3; have t4 := S.t4; have a4 := S.a4; have z4 := S.z4; have v4 := S.v4; have t46 := S.t46; have a46 := S.a46; have z46 := S.z46; have v46 := S.v46; have t86 := S.t86; have a86 := S.a86; have z86 := S.z86; have v86 := S.v86; have t116 := S.t116; have a116 := S.a116; have z116 := S.z116; have v116 := S.v116; have u0 := run_underlying S.t0; have u3 := run_underlying S.t3; have u4 := run_underlying S.t4; have u46 := run_underlying S.t46; have u86 := run_underlying S.t86; have u116 := run_underlying S.t116
  have S0 : Aside (SWD enc k w0 blk off d w) := T
  have HC : Aside (CmpB P g cb enc ok cf) := hcmp
  have HOK : Aside (∀ i, i < d.size → ok d[i]!) := hok
  clear T hcmp hok
  go_enter S.fIN, Tryd.ntmps135
  go_wp2
  go_loopg [8] (b - a) (fun g1 vi wr => ∃ (i : Nat) (dk : Array α), vi = .int .i64 i ∧ a < i ∧ i ≤ b + 1 ∧ b + 1 - i ≤ g1 + 1 ∧ dk.size = d.size ∧ Aside (SWD enc k w0 blk off dk wr) ∧ Aside (PermIn 0 d.size d dk ∧ insOuter (ltOf cf) a b i dk = insOuter (ltOf cf) a b (a + 1) d))
  case atStart => exact ⟨a + 1, d, by go_num, by omega, by omega, by omega, rfl, S0, show _ ∧ _ from ⟨permIn_refl _ _ _, rfl⟩⟩
  case round =>
    clear S0
    obtain ⟨i, dk, rfl, hai, hib, hg1, hsk, S1, HO⟩ := hrel
    by_cases hlt : i < b
    · have hltz : (i : Int) < (b : Int) := by omega
      go_wp2
      go_loopg [9] i (fun g2 vj wr2 => ∃ (j : Nat) (dj : Array α), vj = .int .i64 j ∧ a ≤ j ∧ j ≤ i ∧ j ≤ g2 ∧ dj.size = d.size ∧ Aside (SWD enc k w0 blk off dj wr2) ∧ Aside (PermIn 0 d.size d dj ∧ insInner (ltOf cf) a j dj = insInner (ltOf cf) a i dk))
      case atStart => exact ⟨i, dk, rfl, by omega, Nat.le_refl _, Nat.le_refl _, hsk, S1, show _ ∧ _ from ⟨HO.out.1, rfl⟩⟩
      case round =>
        clear S1
        obtain ⟨j, dj, rfl, haj, hji, hg2, hsj, S2, HI⟩ := hrel
        have out : (j ≤ a ∨ ltOf cf dj[j]! dj[j - 1]! = false) → insOuter (ltOf cf) a b (i + 1) dj = insOuter (ltOf cf) a b (a + 1) d := fun hs => by
          rw [← HO.out.2, insOuter_go _ _ _ _ _ hlt, ← HI.out.2, insInner_stop _ _ _ _ hs]
        have OUT : Aside ((j ≤ a ∨ ltOf cf dj[j]! dj[j - 1]! = false) → insOuter (ltOf cf) a b (i + 1) dj = insOuter (ltOf cf) a b (a + 1) d) := out
        clear out
        by_cases hja : a < j
        · have hjaz : (a : Int) < (j : Int) := by omega
          obtain ⟨jp, rfl⟩ : ∃ jp, j = jp + 1 := ⟨j - 1, by omega⟩
          have okj : ok dj[jp + 1]! := permIn_all d dj 0 d.size ok (Nat.le_refl _) HI.out.1 (fun i _ h => HOK.out i h) (jp + 1) (Nat.zero_le _) (by omega)
          have okp : ok dj[jp]! := permIn_all d dj 0 d.size ok (Nat.le_refl _) HI.out.1 (fun i _ h => HOK.out i h) jp (Nat.zero_le _) (by omega)
          have lj := S2.out.ldB R (by omega) P (jp + 1) (by omega)
          have lp := S2.out.ldB R (by omega) P jp (by omega)
          have hcg := HC.out.at_ (W := wr) _ _ okj okp
          obtain ⟨xj, hxj⟩ : ∃ x, dj[jp + 1]! = x := ⟨_, rfl⟩
          obtain ⟨xp, hxp⟩ : ∃ x, dj[jp]! = x := ⟨_, rfl⟩
          rw [hxj] at lj hcg
          rw [hxp] at lp hcg
          have XX : Hid (dj[jp + 1]! = xj ∧ dj[jp]! = xp) := ⟨hxj, hxp⟩
          clear okj okp hxj hxp
          have hwp : IntKind.i64.wrap (jp : Int) = (jp : Int) := by rw [IntKind.wrap_i64]; omega
          have jz : (jp : Int) + 1 < (d.size : Int) := by omega
          have jz1 : (jp : Int) < (d.size : Int) := by omega
          have hjaz' : (a : Int) < (jp : Int) + 1 := by omega
          have p0 : (0 : Int) ≤ (jp : Int) + 1 := by omega
          have e0 : ((jp : Int) + 1).toNat = jp + 1 := by omega
          by_cases hlv : cf xj xp < 0
          · skip
            go_wp2_with fail
            refine wp_region_quiet_below (by assumption) (by kernel_rfl) ?_
            repeat (quiet_step (first | (go_at_fn g; exact hcg _)))
            refine wpQuiet_nil ?_
            intro _ hw'
            obtain ⟨p, hw''⟩ := hw'
            subst hw''
            have S3 : Aside (SWD enc k w0 blk off dj p.W) := S2.out.below p.h
            clear lj lp hcg S2 jz jz1 p0 e0
            generalize p.W = wq at S3 ⊢
            go_wp2_with fail
            have ea45 : ((jp : Int) + 1).toNat = jp + 1 := by omega
            have pa45 : (0 : Int) ≤ (jp : Int) + 1 := by omega
            have ba45 : (jp : Int) + 1 < (d.size : Int) := by omega
            have ra45 : IntKind.i64.wrap ((jp : Int) + 1) = (jp : Int) + 1 := by rw [IntKind.wrap_i64]; omega
            have ec45 : ((jp : Int)).toNat = jp := by omega
            have pc45 : (0 : Int) ≤ (jp : Int) := by omega
            have bc45 : (jp : Int) < (d.size : Int) := by omega
            have rc45 : IntKind.i64.wrap ((jp : Int)) = (jp : Int) := by rw [IntKind.wrap_i64]; omega
            have S4 : Aside (SWD enc k w0 blk off (swp dj (jp + 1) (jp)) ((wq.drew.setCells blk (off + (jp + 1) * k) (enc dj[jp]!)).setCells blk (off + (jp) * k) (enc dj[jp + 1]!))) := S3.out.swapped R (jp + 1) (jp) (by omega) (by omega)
            have l45a := S3.out.ld1 R (by omega) P (jp + 1) (by omega)
            have l45b := S3.out.ld1 R (by omega) P (jp) (by omega)
            have s45a := S3.out.st1 R (by omega) P (jp + 1) (by omega) dj[jp]!
            have s45b := S3.out.st2 R (by omega) P (jp + 1) (jp) (by omega) (by omega) dj[jp]! dj[jp + 1]!
            have n45a : (enc dj[jp + 1]!).length = k := R.hk _
            have n45b : (enc dj[jp]!).length = k := R.hk _
            generalize enc dj[jp + 1]! = cI45 at S4 l45a s45b n45a
            generalize enc dj[jp]! = cJ45 at S4 l45b s45a s45b n45b
            clear S3
            go_wp2_with fail
            go_big_region_o
            clear l45a l45b s45a s45b
            generalize (wq.drew.setCells blk (off + (jp + 1) * k) cJ45).setCells blk (off + (jp) * k) cI45 = w2 at S4 ⊢
            go_wp2
            go_roundg jp
            case measure => omega
            case rel =>
              refine ⟨jp, swp dj (jp + 1) jp, by first | rfl | go_num | (congr 1; omega), by omega, by omega, Nat.le_refl _, by rw [size_swp]; exact hsj, S4, show _ ∧ _ from ⟨permIn_trans _ _ _ _ _ HI.out.1 (swp_permIn dj 0 d.size _ _ (by omega) (by omega) (by omega) (by omega) (by omega)), ?_⟩⟩
              have := insInner_go (ltOf cf) a (jp + 1) dj hja (by simp only [Nat.add_sub_cancel]; rw [XX.out.1, XX.out.2]; exact decide_eq_true hlv)
              simp only [Nat.add_sub_cancel] at this
              rw [← HI.out.2, this]
          · skip
            go_wp2_with fail
            refine wp_region_quiet_below (by assumption) (by kernel_rfl) ?_
            repeat (quiet_step (first | (go_at_fn g; exact hcg _)))
            refine wpQuiet_nil ?_
            intro _ hw'
            obtain ⟨p, hw''⟩ := hw'
            subst hw''
            have S3 : Aside (SWD enc k w0 blk off dj p.W) := S2.out.below p.h
            clear lj lp hcg S2
            generalize p.W = wq at S3 ⊢
            go_wp2
            go_roundg (b - (i + 1))
            case measure => omega
            case rel => exact ⟨i + 1, dj, by go_num, by omega, by omega, by omega, hsj, S3, show _ ∧ _ from ⟨HI.out.1, OUT.out (Or.inr (by simp only [Nat.add_sub_cancel]; rw [XX.out.1, XX.out.2]; exact decide_eq_false (by omega)))⟩⟩
        · have hjaz : decide ((j : Int) > (a : Int)) = false := decide_eq_false (by omega)
          have hjaz' : ¬ (a : Int) < (j : Int) := by omega
          have S3 : Aside (SWD enc k w0 blk off dj wr.drew) := S2.out.drew
          clear S2
          go_wp2_with fail
          go_big_region_o
          all_goals go_wp2
          go_roundg (b - (i + 1))
          case measure => omega
          case rel => exact ⟨i + 1, dj, by go_num, by omega, by omega, by omega, hsj, S3, show _ ∧ _ from ⟨HI.out.1, OUT.out (Or.inl (by omega))⟩⟩
    · have hltz : ¬ (i : Int) < (b : Int) := by omega
      go_wp2
      go_end0
      exact ⟨rfl, by unfold Sort.insertionSort; rw [← HO.out.2, insOuter_stop _ _ _ _ _ hlt]; exact S1.out⟩

end Go.Proofs.YtfmnofjijodgcaaDoor.Sw
