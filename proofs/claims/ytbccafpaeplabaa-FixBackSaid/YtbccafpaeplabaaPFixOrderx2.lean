-- PRINTED BY print.sh 35421559b90ae4d0a3588c463048766b98c2df88dd9212a6774a882060cdf62d: not written by this session
import Derived.Test.YtbccafpaeplabaaPFixOrderx0
import Derived.Test.YtbccafpaeplabaaPFixOrderx1
namespace Go.Proofs.Ytbccafpaeplabaa.PFixOrder
open Go.RowKit Go.Proofs.YtbccafpaeplabaaW.PrintWords Go.Proofs.YtbccafpaeplabaaW.PrintLast Go.Proofs.YtbccafpaeplabaaW.PrintMore
attribute [local go_sem] max2_int min2_int max_two min_two max_three min_three max_four min_four   -- for this text's walks alone
set_option linter.unusedVariables false
set_option linter.unusedSimpArgs false

/-! ### fix_Mul: function 22 -/
def fix_Mul.f (k : Nat) (a0 : Int) (a1 : Int) : Option (Int) := (fix_size.f a0).bind fun bt107 => ((fix_size.f a1).bind fun bt109 => ((bits_Mul64.f bt107.1 bt109.1).bind fun bt111 => ((fix_held.f k (bt111.1 / 4294967296) (Go.bits .or .u64 (IntKind.u64.wrap (bt111.1 * 4294967296)) (bt111.2 / 4294967296)) (bt107.2 != bt109.2) (((bt111.2) % 4294967296) != 0)).bind fun t113 => (some t113))))
theorem fix_Mul.mono : ∀ a0 a1 k, LeO (fix_Mul.f k a0 a1) (fix_Mul.f (k + 1) a0 a1) := by
  intro a0 a1 k
  unfold fix_Mul.f
  repeat' first
      | (with_reducible exact fix_held.mono _ _ _ _ _)
      | (with_reducible exact LeO.refl _)
      | (with_reducible exact LeO.none _)
      | (with_reducible refine LeO.ite ?_ ?_)
      | (with_reducible refine LeO.bind ?_ (fun _ => ?_))
      | exact fix_held.mono _ _ _ _ _
      | exact LeO.none _
      | refine LeO.ite ?_ ?_
      | refine LeO.bind ?_ (fun _ => ?_)
set_option maxHeartbeats 8000000 in
set_option maxRecDepth 100000 in
theorem fix_Mul.calls (k : Nat) (a0 : Int) (a1 : Int) (r : Int) (w : World) (h : fix_Mul.f k a0 a1 = some r) :
    Calls Try.prog 22 #[.int .i64 a0, .int .i64 a1] w fun e w' => e = .returned (.int .i64 r) ∧ Drawn0 w w' := by
  have H : ((fix_size.f a0).bind fun bt107 => ((fix_size.f a1).bind fun bt109 => ((bits_Mul64.f bt107.1 bt109.1).bind fun bt111 => ((fix_held.f k (bt111.1 / 4294967296) (Go.bits .or .u64 (IntKind.u64.wrap (bt111.1 * 4294967296)) (bt111.2 / 4294967296)) (bt107.2 != bt109.2) (((bt111.2) % 4294967296) != 0)).bind fun t113 => (some t113))))) = some r := h
  clear h
  replace H := Option.bind_eq_some_iff.mp H
  obtain ⟨⟨t107, t108⟩, A30, H⟩ := H
  replace H : ((fix_size.f a1).bind fun bt109 => ((bits_Mul64.f t107 bt109.1).bind fun bt111 => ((fix_held.f k (bt111.1 / 4294967296) (Go.bits .or .u64 (IntKind.u64.wrap (bt111.1 * 4294967296)) (bt111.2 / 4294967296)) (t108 != bt109.2) (((bt111.2) % 4294967296) != 0)).bind fun t113 => (some t113)))) = some r := H
  have A3 := Aside0.mk A30
  clear A30
  replace H := Option.bind_eq_some_iff.mp H
  obtain ⟨⟨t109, t110⟩, A40, H⟩ := H
  replace H : ((bits_Mul64.f t107 t109).bind fun bt111 => ((fix_held.f k (bt111.1 / 4294967296) (Go.bits .or .u64 (IntKind.u64.wrap (bt111.1 * 4294967296)) (bt111.2 / 4294967296)) (t108 != t110) (((bt111.2) % 4294967296) != 0)).bind fun t113 => (some t113))) = some r := H
  have A4 := Aside0.mk A40
  clear A40
  replace H := Option.bind_eq_some_iff.mp H
  obtain ⟨⟨t111, t112⟩, A50, H⟩ := H
  replace H : ((fix_held.f k (t111 / 4294967296) (Go.bits .or .u64 (IntKind.u64.wrap (t111 * 4294967296)) (t112 / 4294967296)) (t108 != t110) (((t112) % 4294967296) != 0)).bind fun t113 => (some t113)) = some r := H
  have A5 := Aside0.mk A50
  clear A50
  replace H := Option.bind_eq_some_iff.mp H
  obtain ⟨t113, A60, H⟩ := H
  replace H : (some t113) = some r := H
  have A6 := Aside0.mk A60
  clear A60
  obtain rfl := Option.some.inj H
  go_enter Try.func22, Try.ntmps22
  go_wp2_with (first | ((with_reducible refine gate_callee (f := 26) rfl ?_); refine goesL_ (some 13) rfl rfl Try.func26 (by kernel_rfl) rfl #[.int .i64 a0] rfl (by (try simp only [List.map_toArray, List.map_cons, List.map_nil]); first | done | rfl | (simp only [List.length_drop, List.length_take]; rfl)) ?_; (with_reducible refine (fix_size.calls a0 t107 t108 _ A3.out).mono ?_); rintro e w' ⟨rfl, ⟨nd, rfl⟩⟩; refine ⟨_, rfl, ?_⟩) | ((with_reducible refine gate_callee (f := 26) rfl ?_); refine goesL_ (some 18) rfl rfl Try.func26 (by kernel_rfl) rfl #[.int .i64 a1] rfl (by (try simp only [List.map_toArray, List.map_cons, List.map_nil]); first | done | rfl | (simp only [List.length_drop, List.length_take]; rfl)) ?_; (with_reducible refine (fix_size.calls a1 t109 t110 _ A4.out).mono ?_); rintro e w' ⟨rfl, ⟨nd, rfl⟩⟩; refine ⟨_, rfl, ?_⟩) | ((with_reducible refine gate_callee (f := 32) rfl ?_); refine goesL_ (some 24) rfl rfl Try.func32 (by kernel_rfl) rfl #[.int .u64 t107, .int .u64 t109] rfl (by (try simp only [List.map_toArray, List.map_cons, List.map_nil]); first | done | rfl | (simp only [List.length_drop, List.length_take]; rfl)) ?_; (with_reducible refine (bits_Mul64.calls t107 t109 t111 t112 _ A5.out).mono ?_); rintro e w' ⟨rfl, ⟨nd, rfl⟩⟩; refine ⟨_, rfl, ?_⟩) | ((with_reducible refine gate_callee (f := 27) rfl ?_); refine goesL_ (some 40) rfl rfl Try.func27 (by kernel_rfl) rfl #[.int .u64 (t111 / 4294967296), .int .u64 (Go.bits .or .u64 (IntKind.u64.wrap (t111 * 4294967296)) (t112 / 4294967296)), .bool (t108 != t110), .bool (((t112) % 4294967296) != 0)] rfl (by (try simp only [List.map_toArray, List.map_cons, List.map_nil]); first | done | rfl | (simp only [List.length_drop, List.length_take]; rfl)) ?_; (with_reducible refine (fix_held.calls k (t111 / 4294967296) (Go.bits .or .u64 (IntKind.u64.wrap (t111 * 4294967296)) (t112 / 4294967296)) (t108 != t110) (((t112) % 4294967296) != 0) t113 _ A6.out).mono ?_); rintro e w' ⟨rfl, ⟨nd, rfl⟩⟩; refine ⟨_, rfl, ?_⟩))
  go_ret
  exact ⟨by first | rfl | (simp; done) | (simp [*]; done), by repeat (first | exact Drawn0.refl _ | apply Drawn0.step)⟩

/-! ### skirmishlaw03_FixOrder: function 6 -/
mutual
def skirmishlaw03_FixOrder.j0 : Nat → Int → Int → Int → Bool → Option (Bool)
  | 0, _, _, _, _ => none
  | k + 1, x0, x1, x2, x42 => if x42 = true then (some false) else (if x1 > x2 then (some true) else ((fix_Add.f k x0 x1).bind fun t122 => ((fix_Add.f k x0 x2).bind fun t123 => (if t122 > t123 then (skirmishlaw03_FixOrder.j1 k x0 x1 x2 true) else ((fix_Sub.f k x0 x1).bind fun t124 => ((fix_Sub.f k x0 x2).bind fun t125 => (if t124 < t125 then (skirmishlaw03_FixOrder.j1 k x0 x1 x2 true) else ((fix_Floor.f x1).bind fun t126 => ((fix_Floor.f x2).bind fun t127 => (if t126 > t127 then (skirmishlaw03_FixOrder.j1 k x0 x1 x2 true) else ((fix_Of.f k x1).bind fun t128 => ((fix_Of.f k x2).bind fun t129 => (skirmishlaw03_FixOrder.j1 k x0 x1 x2 (decide (t128 > t129)))))))))))))))
def skirmishlaw03_FixOrder.j1 : Nat → Int → Int → Int → Bool → Option (Bool)
  | 0, _, _, _, _ => none
  | k + 1, x0, x1, x2, x75 => if x75 = true then (some false) else (if x0 < 0 then (some true) else ((fix_Mul.f k x0 x1).bind fun t130 => ((fix_Mul.f k x0 x2).bind fun t131 => (some (decide (t130 ≤ t131))))))
end
def skirmishlaw03_FixOrder.f (k : Nat) (a0 : Int) (a1 : Int) (a2 : Int) : Option (Bool) := (skirmishlaw03_awake.f k).bind fun t114 => (if t114 = true then ((fix_Add.f k a0 a1).bind fun t115 => ((fix_Add.f k a1 a0).bind fun t116 => (if t115 = t116 then ((fix_Mul.f k a0 a1).bind fun t117 => ((fix_Mul.f k a1 a0).bind fun t118 => (if t117 = t118 then ((fix_Add.f k a0 0).bind fun t119 => (if t119 = a0 then ((fix_Mul.f k a0 4294967296).bind fun t120 => (if t120 = a0 then ((fix_Sub.f k a0 a0).bind fun t121 => (skirmishlaw03_FixOrder.j0 k a0 a1 a2 (t121 != 0))) else (skirmishlaw03_FixOrder.j0 k a0 a1 a2 true))) else (skirmishlaw03_FixOrder.j0 k a0 a1 a2 true))) else (skirmishlaw03_FixOrder.j0 k a0 a1 a2 true)))) else (skirmishlaw03_FixOrder.j0 k a0 a1 a2 true)))) else (some false))
theorem skirmishlaw03_FixOrder.mono_l : ∀ k, (∀ y0 y1 y2 y3, LeO (skirmishlaw03_FixOrder.j0 k y0 y1 y2 y3) (skirmishlaw03_FixOrder.j0 (k + 1) y0 y1 y2 y3)) ∧ (∀ y0 y1 y2 y3, LeO (skirmishlaw03_FixOrder.j1 k y0 y1 y2 y3) (skirmishlaw03_FixOrder.j1 (k + 1) y0 y1 y2 y3))
  | 0 => ⟨fun _ _ _ _ r h => by simp [skirmishlaw03_FixOrder.j0] at h, fun _ _ _ _ r h => by simp [skirmishlaw03_FixOrder.j1] at h⟩
  | k + 1 => by
    obtain ⟨ih0, ih1⟩ := skirmishlaw03_FixOrder.mono_l k
    refine ⟨?_, ?_⟩
    · intro y0 y1 y2 y3
      unfold skirmishlaw03_FixOrder.j0
      repeat' first
      | (with_reducible exact ih0 _ _ _ _)
      | (with_reducible exact ih1 _ _ _ _)
      | (with_reducible exact fix_Add.mono _ _ _)
      | (with_reducible exact fix_Mul.mono _ _ _)
      | (with_reducible exact fix_Of.mono _ _)
      | (with_reducible exact fix_Sub.mono _ _ _)
      | (with_reducible exact skirmishlaw03_awake.mono _)
      | (with_reducible exact LeO.refl _)
      | (with_reducible exact LeO.none _)
      | (with_reducible refine LeO.ite ?_ ?_)
      | (with_reducible refine LeO.bind ?_ (fun _ => ?_))
      | exact ih0 _ _ _ _
      | exact ih1 _ _ _ _
      | exact fix_Add.mono _ _ _
      | exact fix_Mul.mono _ _ _
      | exact fix_Of.mono _ _
      | exact fix_Sub.mono _ _ _
      | exact skirmishlaw03_awake.mono _
      | exact LeO.none _
      | refine LeO.ite ?_ ?_
      | refine LeO.bind ?_ (fun _ => ?_)
    · intro y0 y1 y2 y3
      unfold skirmishlaw03_FixOrder.j1
      repeat' first
      | (with_reducible exact ih0 _ _ _ _)
      | (with_reducible exact ih1 _ _ _ _)
      | (with_reducible exact fix_Add.mono _ _ _)
      | (with_reducible exact fix_Mul.mono _ _ _)
      | (with_reducible exact fix_Of.mono _ _)
      | (with_reducible exact fix_Sub.mono _ _ _)
      | (with_reducible exact skirmishlaw03_awake.mono _)
      | (with_reducible exact LeO.refl _)
      | (with_reducible exact LeO.none _)
      | (with_reducible refine LeO.ite ?_ ?_)
      | (with_reducible refine LeO.bind ?_ (fun _ => ?_))
      | exact ih0 _ _ _ _
      | exact ih1 _ _ _ _
      | exact fix_Add.mono _ _ _
      | exact fix_Mul.mono _ _ _
      | exact fix_Of.mono _ _
      | exact fix_Sub.mono _ _ _
      | exact skirmishlaw03_awake.mono _
      | exact LeO.none _
      | refine LeO.ite ?_ ?_
      | refine LeO.bind ?_ (fun _ => ?_)
theorem skirmishlaw03_FixOrder.mono : ∀ a0 a1 a2 k, LeO (skirmishlaw03_FixOrder.f k a0 a1 a2) (skirmishlaw03_FixOrder.f (k + 1) a0 a1 a2) := by
  intro a0 a1 a2 k
  obtain ⟨ih0, ih1⟩ := skirmishlaw03_FixOrder.mono_l k
  unfold skirmishlaw03_FixOrder.f
  repeat' first
      | (with_reducible exact ih0 _ _ _ _)
      | (with_reducible exact ih1 _ _ _ _)
      | (with_reducible exact fix_Add.mono _ _ _)
      | (with_reducible exact fix_Mul.mono _ _ _)
      | (with_reducible exact fix_Of.mono _ _)
      | (with_reducible exact fix_Sub.mono _ _ _)
      | (with_reducible exact skirmishlaw03_awake.mono _)
      | (with_reducible exact LeO.refl _)
      | (with_reducible exact LeO.none _)
      | (with_reducible refine LeO.ite ?_ ?_)
      | (with_reducible refine LeO.bind ?_ (fun _ => ?_))
      | exact ih0 _ _ _ _
      | exact ih1 _ _ _ _
      | exact fix_Add.mono _ _ _
      | exact fix_Mul.mono _ _ _
      | exact fix_Of.mono _ _
      | exact fix_Sub.mono _ _ _
      | exact skirmishlaw03_awake.mono _
      | exact LeO.none _
      | refine LeO.ite ?_ ?_
      | refine LeO.bind ?_ (fun _ => ?_)
set_option maxHeartbeats 8000000 in
set_option maxRecDepth 100000 in
theorem skirmishlaw03_FixOrder.calls (k : Nat) (a0 : Int) (a1 : Int) (a2 : Int) (r : Bool) (w : World) (h : skirmishlaw03_FixOrder.f k a0 a1 a2 = some r) :
    Calls Try.prog 6 #[.int .i64 a0, .int .i64 a1, .int .i64 a2] w fun e w' => e = .returned (.bool r) ∧ Drawn0 w w' := by
  have H : ((skirmishlaw03_awake.f k).bind fun t114 => (if t114 = true then ((fix_Add.f k a0 a1).bind fun t115 => ((fix_Add.f k a1 a0).bind fun t116 => (if t115 = t116 then ((fix_Mul.f k a0 a1).bind fun t117 => ((fix_Mul.f k a1 a0).bind fun t118 => (if t117 = t118 then ((fix_Add.f k a0 0).bind fun t119 => (if t119 = a0 then ((fix_Mul.f k a0 4294967296).bind fun t120 => (if t120 = a0 then ((fix_Sub.f k a0 a0).bind fun t121 => (skirmishlaw03_FixOrder.j0 k a0 a1 a2 (t121 != 0))) else (skirmishlaw03_FixOrder.j0 k a0 a1 a2 true))) else (skirmishlaw03_FixOrder.j0 k a0 a1 a2 true))) else (skirmishlaw03_FixOrder.j0 k a0 a1 a2 true)))) else (skirmishlaw03_FixOrder.j0 k a0 a1 a2 true)))) else (some false))) = some r := h
  clear h
  replace H := Option.bind_eq_some_iff.mp H
  obtain ⟨t114, A40, H⟩ := H
  replace H : (if t114 = true then ((fix_Add.f k a0 a1).bind fun t115 => ((fix_Add.f k a1 a0).bind fun t116 => (if t115 = t116 then ((fix_Mul.f k a0 a1).bind fun t117 => ((fix_Mul.f k a1 a0).bind fun t118 => (if t117 = t118 then ((fix_Add.f k a0 0).bind fun t119 => (if t119 = a0 then ((fix_Mul.f k a0 4294967296).bind fun t120 => (if t120 = a0 then ((fix_Sub.f k a0 a0).bind fun t121 => (skirmishlaw03_FixOrder.j0 k a0 a1 a2 (t121 != 0))) else (skirmishlaw03_FixOrder.j0 k a0 a1 a2 true))) else (skirmishlaw03_FixOrder.j0 k a0 a1 a2 true))) else (skirmishlaw03_FixOrder.j0 k a0 a1 a2 true)))) else (skirmishlaw03_FixOrder.j0 k a0 a1 a2 true)))) else (some false)) = some r := H
  have A4 := Aside0.mk A40
  clear A40
  by_cases c5 : t114 = true
  · subst c5
    have H1 : ((fix_Add.f k a0 a1).bind fun t115 => ((fix_Add.f k a1 a0).bind fun t116 => (if t115 = t116 then ((fix_Mul.f k a0 a1).bind fun t117 => ((fix_Mul.f k a1 a0).bind fun t118 => (if t117 = t118 then ((fix_Add.f k a0 0).bind fun t119 => (if t119 = a0 then ((fix_Mul.f k a0 4294967296).bind fun t120 => (if t120 = a0 then ((fix_Sub.f k a0 a0).bind fun t121 => (skirmishlaw03_FixOrder.j0 k a0 a1 a2 (t121 != 0))) else (skirmishlaw03_FixOrder.j0 k a0 a1 a2 true))) else (skirmishlaw03_FixOrder.j0 k a0 a1 a2 true))) else (skirmishlaw03_FixOrder.j0 k a0 a1 a2 true)))) else (skirmishlaw03_FixOrder.j0 k a0 a1 a2 true)))) = some r := by rw [if_pos rfl] at H; exact H
    clear H
    have H := H1
    clear H1
    have HC6 := Aside0.mk H
    clear H
    go_enter Try.func6, Try.ntmps6
    go_upto_region 3 with (first | ((with_reducible refine gate_callee (f := 9) rfl ?_); refine goesL_ (some 7) rfl rfl Try.func9 (by kernel_rfl) rfl #[] rfl (by (try simp only [List.map_toArray, List.map_cons, List.map_nil]); first | done | rfl | (simp only [List.length_drop, List.length_take]; rfl)) ?_; (with_reducible refine (skirmishlaw03_awake.calls k  true _ A4.out).mono ?_); rintro e w' ⟨rfl, ⟨nd, rfl⟩⟩; refine ⟨_, rfl, ?_⟩))
    (try simp only [Act.put, List.setIfInBounds_toArray, List.set_cons_zero, List.set_cons_succ])
    go_cut [42] (fun v42 wc => ∃ (kq : Nat) (x42_5 : Bool), v42 = .bool x42_5 ∧ Aside0 (skirmishlaw03_FixOrder.j0 kq a0 a1 a2 x42_5 = some r) ∧ Aside0 (kq ≤ k) ∧ Drawn0 w wc)
    case first =>
      have H := HC6.out
      clear HC6
      replace H := Option.bind_eq_some_iff.mp H
      obtain ⟨t115, A70, H⟩ := H
      replace H : ((fix_Add.f k a1 a0).bind fun t116 => (if t115 = t116 then ((fix_Mul.f k a0 a1).bind fun t117 => ((fix_Mul.f k a1 a0).bind fun t118 => (if t117 = t118 then ((fix_Add.f k a0 0).bind fun t119 => (if t119 = a0 then ((fix_Mul.f k a0 4294967296).bind fun t120 => (if t120 = a0 then ((fix_Sub.f k a0 a0).bind fun t121 => (skirmishlaw03_FixOrder.j0 k a0 a1 a2 (t121 != 0))) else (skirmishlaw03_FixOrder.j0 k a0 a1 a2 true))) else (skirmishlaw03_FixOrder.j0 k a0 a1 a2 true))) else (skirmishlaw03_FixOrder.j0 k a0 a1 a2 true)))) else (skirmishlaw03_FixOrder.j0 k a0 a1 a2 true))) = some r := H
      have A7 := Aside0.mk A70
      clear A70
      replace H := Option.bind_eq_some_iff.mp H
      obtain ⟨t116, A80, H⟩ := H
      replace H : (if t115 = t116 then ((fix_Mul.f k a0 a1).bind fun t117 => ((fix_Mul.f k a1 a0).bind fun t118 => (if t117 = t118 then ((fix_Add.f k a0 0).bind fun t119 => (if t119 = a0 then ((fix_Mul.f k a0 4294967296).bind fun t120 => (if t120 = a0 then ((fix_Sub.f k a0 a0).bind fun t121 => (skirmishlaw03_FixOrder.j0 k a0 a1 a2 (t121 != 0))) else (skirmishlaw03_FixOrder.j0 k a0 a1 a2 true))) else (skirmishlaw03_FixOrder.j0 k a0 a1 a2 true))) else (skirmishlaw03_FixOrder.j0 k a0 a1 a2 true)))) else (skirmishlaw03_FixOrder.j0 k a0 a1 a2 true)) = some r := H
      have A8 := Aside0.mk A80
      clear A80
      by_cases c9 : t115 = t116
      · rw [if_pos c9] at H
        have c9b0 : (t115 == t116) = true := beq_iff_eq.mpr c9
        have c9b1 : (t115 != t116) = false := bne_eq_false_iff_eq.mpr c9
        clear c9
        (first | rw [c9b0] | (simp only [i64_w, i32_w]; rw [c9b0]) | skip)
        replace H := Option.bind_eq_some_iff.mp H
        obtain ⟨t117, A100, H⟩ := H
        replace H : ((fix_Mul.f k a1 a0).bind fun t118 => (if t117 = t118 then ((fix_Add.f k a0 0).bind fun t119 => (if t119 = a0 then ((fix_Mul.f k a0 4294967296).bind fun t120 => (if t120 = a0 then ((fix_Sub.f k a0 a0).bind fun t121 => (skirmishlaw03_FixOrder.j0 k a0 a1 a2 (t121 != 0))) else (skirmishlaw03_FixOrder.j0 k a0 a1 a2 true))) else (skirmishlaw03_FixOrder.j0 k a0 a1 a2 true))) else (skirmishlaw03_FixOrder.j0 k a0 a1 a2 true))) = some r := H
        have A10 := Aside0.mk A100
        clear A100
        replace H := Option.bind_eq_some_iff.mp H
        obtain ⟨t118, A110, H⟩ := H
        replace H : (if t117 = t118 then ((fix_Add.f k a0 0).bind fun t119 => (if t119 = a0 then ((fix_Mul.f k a0 4294967296).bind fun t120 => (if t120 = a0 then ((fix_Sub.f k a0 a0).bind fun t121 => (skirmishlaw03_FixOrder.j0 k a0 a1 a2 (t121 != 0))) else (skirmishlaw03_FixOrder.j0 k a0 a1 a2 true))) else (skirmishlaw03_FixOrder.j0 k a0 a1 a2 true))) else (skirmishlaw03_FixOrder.j0 k a0 a1 a2 true)) = some r := H
        have A11 := Aside0.mk A110
        clear A110
        by_cases c12 : t117 = t118
        · rw [if_pos c12] at H
          have c12b0 : (t117 == t118) = true := beq_iff_eq.mpr c12
          have c12b1 : (t117 != t118) = false := bne_eq_false_iff_eq.mpr c12
          clear c12
          replace H := Option.bind_eq_some_iff.mp H
          obtain ⟨t119, A130, H⟩ := H
          replace H : (if t119 = a0 then ((fix_Mul.f k a0 4294967296).bind fun t120 => (if t120 = a0 then ((fix_Sub.f k a0 a0).bind fun t121 => (skirmishlaw03_FixOrder.j0 k a0 a1 a2 (t121 != 0))) else (skirmishlaw03_FixOrder.j0 k a0 a1 a2 true))) else (skirmishlaw03_FixOrder.j0 k a0 a1 a2 true)) = some r := H
          have A13 := Aside0.mk A130
          clear A130
          by_cases c14 : t119 = a0
          · rw [if_pos c14] at H
            have c14b0 : (t119 == a0) = true := beq_iff_eq.mpr c14
            have c14b1 : (t119 != a0) = false := bne_eq_false_iff_eq.mpr c14
            clear c14
            replace H := Option.bind_eq_some_iff.mp H
            obtain ⟨t120, A150, H⟩ := H
            replace H : (if t120 = a0 then ((fix_Sub.f k a0 a0).bind fun t121 => (skirmishlaw03_FixOrder.j0 k a0 a1 a2 (t121 != 0))) else (skirmishlaw03_FixOrder.j0 k a0 a1 a2 true)) = some r := H
            have A15 := Aside0.mk A150
            clear A150
            by_cases c16 : t120 = a0
            · rw [if_pos c16] at H
              have c16b0 : (t120 == a0) = true := beq_iff_eq.mpr c16
              have c16b1 : (t120 != a0) = false := bne_eq_false_iff_eq.mpr c16
              clear c16
              replace H := Option.bind_eq_some_iff.mp H
              obtain ⟨t121, A170, H⟩ := H
              replace H : (skirmishlaw03_FixOrder.j0 k a0 a1 a2 (t121 != 0)) = some r := H
              have A17 := Aside0.mk A170
              clear A170
              have H' := Aside0.mk H
              clear H
              go_wp2_with (first | ((with_reducible refine gate_callee (f := 18) rfl ?_); refine goesL_ (some 11) rfl rfl Try.func18 (by kernel_rfl) rfl #[.int .i64 a0, .int .i64 a1] rfl (by (try simp only [List.map_toArray, List.map_cons, List.map_nil]); first | done | rfl | (simp only [List.length_drop, List.length_take]; rfl)) ?_; (with_reducible refine (fix_Add.calls k a0 a1 t115 _ A7.out).mono ?_); rintro e w' ⟨rfl, ⟨nd, rfl⟩⟩; refine ⟨_, rfl, ?_⟩) | ((with_reducible refine gate_callee (f := 18) rfl ?_); refine goesL_ (some 14) rfl rfl Try.func18 (by kernel_rfl) rfl #[.int .i64 a1, .int .i64 a0] rfl (by (try simp only [List.map_toArray, List.map_cons, List.map_nil]); first | done | rfl | (simp only [List.length_drop, List.length_take]; rfl)) ?_; (with_reducible refine (fix_Add.calls k a1 a0 t116 _ A8.out).mono ?_); rintro e w' ⟨rfl, ⟨nd, rfl⟩⟩; refine ⟨_, rfl, ?_⟩) | (go_at_call 22; (with_reducible refine (fix_Mul.calls k a0 a1 t117 _ A10.out).mono ?_); rintro e w' ⟨rfl, ⟨nd, rfl⟩⟩) | (go_at_call 22; (with_reducible refine (fix_Mul.calls k a1 a0 t118 _ A11.out).mono ?_); rintro e w' ⟨rfl, ⟨nd, rfl⟩⟩) | (go_at_call 18; (with_reducible refine (fix_Add.calls k a0 0 t119 _ A13.out).mono ?_); rintro e w' ⟨rfl, ⟨nd, rfl⟩⟩) | (go_at_call 22; (with_reducible refine (fix_Mul.calls k a0 4294967296 t120 _ A15.out).mono ?_); rintro e w' ⟨rfl, ⟨nd, rfl⟩⟩) | (go_at_call 20; (with_reducible refine (fix_Sub.calls k a0 a0 t121 _ A17.out).mono ?_); rintro e w' ⟨rfl, ⟨nd, rfl⟩⟩))
              go_meet
              case rel => exact ⟨_, ((t121 != 0)), (by first | rfl | (simp; done) | (simp [*]; done)), H', ⟨by first | omega | exact Nat.le_refl _⟩, by repeat (first | exact Drawn0.refl _ | apply Drawn0.step)⟩
            · rw [if_neg c16] at H
              have c16b0 : (t120 == a0) = false := beq_eq_false_iff_ne.mpr c16
              have c16b1 : (t120 != a0) = true := bne_iff_ne.mpr c16
              have H' := Aside0.mk H
              clear H
              go_wp2_with (first | ((with_reducible refine gate_callee (f := 18) rfl ?_); refine goesL_ (some 11) rfl rfl Try.func18 (by kernel_rfl) rfl #[.int .i64 a0, .int .i64 a1] rfl (by (try simp only [List.map_toArray, List.map_cons, List.map_nil]); first | done | rfl | (simp only [List.length_drop, List.length_take]; rfl)) ?_; (with_reducible refine (fix_Add.calls k a0 a1 t115 _ A7.out).mono ?_); rintro e w' ⟨rfl, ⟨nd, rfl⟩⟩; refine ⟨_, rfl, ?_⟩) | ((with_reducible refine gate_callee (f := 18) rfl ?_); refine goesL_ (some 14) rfl rfl Try.func18 (by kernel_rfl) rfl #[.int .i64 a1, .int .i64 a0] rfl (by (try simp only [List.map_toArray, List.map_cons, List.map_nil]); first | done | rfl | (simp only [List.length_drop, List.length_take]; rfl)) ?_; (with_reducible refine (fix_Add.calls k a1 a0 t116 _ A8.out).mono ?_); rintro e w' ⟨rfl, ⟨nd, rfl⟩⟩; refine ⟨_, rfl, ?_⟩) | (go_at_call 22; (with_reducible refine (fix_Mul.calls k a0 a1 t117 _ A10.out).mono ?_); rintro e w' ⟨rfl, ⟨nd, rfl⟩⟩) | (go_at_call 22; (with_reducible refine (fix_Mul.calls k a1 a0 t118 _ A11.out).mono ?_); rintro e w' ⟨rfl, ⟨nd, rfl⟩⟩) | (go_at_call 18; (with_reducible refine (fix_Add.calls k a0 0 t119 _ A13.out).mono ?_); rintro e w' ⟨rfl, ⟨nd, rfl⟩⟩) | (go_at_call 22; (with_reducible refine (fix_Mul.calls k a0 4294967296 t120 _ A15.out).mono ?_); rintro e w' ⟨rfl, ⟨nd, rfl⟩⟩))
              go_meet
              case rel => exact ⟨_, (true), (by first | rfl | (simp; done) | (simp [*]; done)), H', ⟨by first | omega | exact Nat.le_refl _⟩, by repeat (first | exact Drawn0.refl _ | apply Drawn0.step)⟩
          · rw [if_neg c14] at H
            have c14b0 : (t119 == a0) = false := beq_eq_false_iff_ne.mpr c14
            have c14b1 : (t119 != a0) = true := bne_iff_ne.mpr c14
            have H' := Aside0.mk H
            clear H
            go_wp2_with (first | ((with_reducible refine gate_callee (f := 18) rfl ?_); refine goesL_ (some 11) rfl rfl Try.func18 (by kernel_rfl) rfl #[.int .i64 a0, .int .i64 a1] rfl (by (try simp only [List.map_toArray, List.map_cons, List.map_nil]); first | done | rfl | (simp only [List.length_drop, List.length_take]; rfl)) ?_; (with_reducible refine (fix_Add.calls k a0 a1 t115 _ A7.out).mono ?_); rintro e w' ⟨rfl, ⟨nd, rfl⟩⟩; refine ⟨_, rfl, ?_⟩) | ((with_reducible refine gate_callee (f := 18) rfl ?_); refine goesL_ (some 14) rfl rfl Try.func18 (by kernel_rfl) rfl #[.int .i64 a1, .int .i64 a0] rfl (by (try simp only [List.map_toArray, List.map_cons, List.map_nil]); first | done | rfl | (simp only [List.length_drop, List.length_take]; rfl)) ?_; (with_reducible refine (fix_Add.calls k a1 a0 t116 _ A8.out).mono ?_); rintro e w' ⟨rfl, ⟨nd, rfl⟩⟩; refine ⟨_, rfl, ?_⟩) | (go_at_call 22; (with_reducible refine (fix_Mul.calls k a0 a1 t117 _ A10.out).mono ?_); rintro e w' ⟨rfl, ⟨nd, rfl⟩⟩) | (go_at_call 22; (with_reducible refine (fix_Mul.calls k a1 a0 t118 _ A11.out).mono ?_); rintro e w' ⟨rfl, ⟨nd, rfl⟩⟩) | (go_at_call 18; (with_reducible refine (fix_Add.calls k a0 0 t119 _ A13.out).mono ?_); rintro e w' ⟨rfl, ⟨nd, rfl⟩⟩))
            go_meet
            case rel => exact ⟨_, (true), (by first | rfl | (simp; done) | (simp [*]; done)), H', ⟨by first | omega | exact Nat.le_refl _⟩, by repeat (first | exact Drawn0.refl _ | apply Drawn0.step)⟩
        · rw [if_neg c12] at H
          have c12b0 : (t117 == t118) = false := beq_eq_false_iff_ne.mpr c12
          have c12b1 : (t117 != t118) = true := bne_iff_ne.mpr c12
          have H' := Aside0.mk H
          clear H
          go_wp2_with (first | ((with_reducible refine gate_callee (f := 18) rfl ?_); refine goesL_ (some 11) rfl rfl Try.func18 (by kernel_rfl) rfl #[.int .i64 a0, .int .i64 a1] rfl (by (try simp only [List.map_toArray, List.map_cons, List.map_nil]); first | done | rfl | (simp only [List.length_drop, List.length_take]; rfl)) ?_; (with_reducible refine (fix_Add.calls k a0 a1 t115 _ A7.out).mono ?_); rintro e w' ⟨rfl, ⟨nd, rfl⟩⟩; refine ⟨_, rfl, ?_⟩) | ((with_reducible refine gate_callee (f := 18) rfl ?_); refine goesL_ (some 14) rfl rfl Try.func18 (by kernel_rfl) rfl #[.int .i64 a1, .int .i64 a0] rfl (by (try simp only [List.map_toArray, List.map_cons, List.map_nil]); first | done | rfl | (simp only [List.length_drop, List.length_take]; rfl)) ?_; (with_reducible refine (fix_Add.calls k a1 a0 t116 _ A8.out).mono ?_); rintro e w' ⟨rfl, ⟨nd, rfl⟩⟩; refine ⟨_, rfl, ?_⟩) | (go_at_call 22; (with_reducible refine (fix_Mul.calls k a0 a1 t117 _ A10.out).mono ?_); rintro e w' ⟨rfl, ⟨nd, rfl⟩⟩) | (go_at_call 22; (with_reducible refine (fix_Mul.calls k a1 a0 t118 _ A11.out).mono ?_); rintro e w' ⟨rfl, ⟨nd, rfl⟩⟩))
          go_meet
          case rel => exact ⟨_, (true), (by first | rfl | (simp; done) | (simp [*]; done)), H', ⟨by first | omega | exact Nat.le_refl _⟩, by repeat (first | exact Drawn0.refl _ | apply Drawn0.step)⟩
      · rw [if_neg c9] at H
        have c9b0 : (t115 == t116) = false := beq_eq_false_iff_ne.mpr c9
        have c9b1 : (t115 != t116) = true := bne_iff_ne.mpr c9
        (first | rw [c9b0] | (simp only [i64_w, i32_w]; rw [c9b0]) | skip)
        have H' := Aside0.mk H
        clear H
        go_wp2_with (first | ((with_reducible refine gate_callee (f := 18) rfl ?_); refine goesL_ (some 11) rfl rfl Try.func18 (by kernel_rfl) rfl #[.int .i64 a0, .int .i64 a1] rfl (by (try simp only [List.map_toArray, List.map_cons, List.map_nil]); first | done | rfl | (simp only [List.length_drop, List.length_take]; rfl)) ?_; (with_reducible refine (fix_Add.calls k a0 a1 t115 _ A7.out).mono ?_); rintro e w' ⟨rfl, ⟨nd, rfl⟩⟩; refine ⟨_, rfl, ?_⟩) | ((with_reducible refine gate_callee (f := 18) rfl ?_); refine goesL_ (some 14) rfl rfl Try.func18 (by kernel_rfl) rfl #[.int .i64 a1, .int .i64 a0] rfl (by (try simp only [List.map_toArray, List.map_cons, List.map_nil]); first | done | rfl | (simp only [List.length_drop, List.length_take]; rfl)) ?_; (with_reducible refine (fix_Add.calls k a1 a0 t116 _ A8.out).mono ?_); rintro e w' ⟨rfl, ⟨nd, rfl⟩⟩; refine ⟨_, rfl, ?_⟩))
        go_meet
        case rel => exact ⟨_, (true), (by first | rfl | (simp; done) | (simp [*]; done)), H', ⟨by first | omega | exact Nat.le_refl _⟩, by repeat (first | exact Drawn0.refl _ | apply Drawn0.step)⟩
    case rest =>
      clear HC6
      try clear c1
      try clear p2
      try clear c5
      try clear c6
      try clear c9
      try clear c9b0
      try clear c9b1
      try clear c12
      try clear c12b0
      try clear c12b1
      try clear c14
      try clear c14b0
      try clear c14b1
      try clear c16
      try clear c16b0
      try clear c16b1
      obtain ⟨kq, x42_5, rfl, HA, HJ5, ⟨mc5, rfl⟩⟩ := hcut
      cases kq with
      | zero => exact absurd HA.out (by simp [skirmishlaw03_FixOrder.j0])
      | succ kj5 =>
        have H := HA.out
        clear HA
        simp only [skirmishlaw03_FixOrder.j0] at H
        by_cases c18 : x42_5 = true
        · subst c18
          have H1 : (some false) = some r := by rw [if_pos rfl] at H; exact H
          clear H
          have H := H1
          clear H1
          obtain rfl := Option.some.inj H
          go_wp2
          go_ret
          exact ⟨by first | rfl | (simp; done) | (simp [*]; done), by repeat (first | exact Drawn0.refl _ | apply Drawn0.step)⟩
        · replace c18 := Bool.eq_false_iff.mpr c18
          subst c18
          have H1 : (if a1 > a2 then (some true) else ((fix_Add.f kj5 a0 a1).bind fun t122 => ((fix_Add.f kj5 a0 a2).bind fun t123 => (if t122 > t123 then (skirmishlaw03_FixOrder.j1 kj5 a0 a1 a2 true) else ((fix_Sub.f kj5 a0 a1).bind fun t124 => ((fix_Sub.f kj5 a0 a2).bind fun t125 => (if t124 < t125 then (skirmishlaw03_FixOrder.j1 kj5 a0 a1 a2 true) else ((fix_Floor.f a1).bind fun t126 => ((fix_Floor.f a2).bind fun t127 => (if t126 > t127 then (skirmishlaw03_FixOrder.j1 kj5 a0 a1 a2 true) else ((fix_Of.f kj5 a1).bind fun t128 => ((fix_Of.f kj5 a2).bind fun t129 => (skirmishlaw03_FixOrder.j1 kj5 a0 a1 a2 (decide (t128 > t129))))))))))))))) = some r := by rw [if_neg (show ¬ (false = true) by decide)] at H; exact H
          clear H
          have H := H1
          clear H1
          by_cases c19 : a1 > a2
          · rw [if_pos c19] at H
            have c19b0 : decide (a2 < a1) = true := decide_eq_true c19
            clear c19
            obtain rfl := Option.some.inj H
            go_wp2
            go_ret
            exact ⟨by first | rfl | (simp; done) | (simp [*]; done), by repeat (first | exact Drawn0.refl _ | apply Drawn0.step)⟩
          · rw [if_neg c19] at H
            have c19b0 : decide (a2 < a1) = false := decide_eq_false c19
            clear c19
            have HC20 := Aside0.mk H
            clear H
            go_upto_region 7 with (fail)
            go_cut [75] (fun v75 wc => ∃ (kq : Nat) (x75_19 : Bool), v75 = .bool x75_19 ∧ Aside0 (skirmishlaw03_FixOrder.j1 kq a0 a1 a2 x75_19 = some r) ∧ Aside0 (kq ≤ kj5) ∧ Drawn0 w wc)
            case first =>
              have H := HC20.out
              clear HC20
              replace H := Option.bind_eq_some_iff.mp H
              obtain ⟨t122, A210, H⟩ := H
              replace H : ((fix_Add.f kj5 a0 a2).bind fun t123 => (if t122 > t123 then (skirmishlaw03_FixOrder.j1 kj5 a0 a1 a2 true) else ((fix_Sub.f kj5 a0 a1).bind fun t124 => ((fix_Sub.f kj5 a0 a2).bind fun t125 => (if t124 < t125 then (skirmishlaw03_FixOrder.j1 kj5 a0 a1 a2 true) else ((fix_Floor.f a1).bind fun t126 => ((fix_Floor.f a2).bind fun t127 => (if t126 > t127 then (skirmishlaw03_FixOrder.j1 kj5 a0 a1 a2 true) else ((fix_Of.f kj5 a1).bind fun t128 => ((fix_Of.f kj5 a2).bind fun t129 => (skirmishlaw03_FixOrder.j1 kj5 a0 a1 a2 (decide (t128 > t129))))))))))))) = some r := H
              have A21 := Aside0.mk A210
              clear A210
              replace H := Option.bind_eq_some_iff.mp H
              obtain ⟨t123, A220, H⟩ := H
              replace H : (if t122 > t123 then (skirmishlaw03_FixOrder.j1 kj5 a0 a1 a2 true) else ((fix_Sub.f kj5 a0 a1).bind fun t124 => ((fix_Sub.f kj5 a0 a2).bind fun t125 => (if t124 < t125 then (skirmishlaw03_FixOrder.j1 kj5 a0 a1 a2 true) else ((fix_Floor.f a1).bind fun t126 => ((fix_Floor.f a2).bind fun t127 => (if t126 > t127 then (skirmishlaw03_FixOrder.j1 kj5 a0 a1 a2 true) else ((fix_Of.f kj5 a1).bind fun t128 => ((fix_Of.f kj5 a2).bind fun t129 => (skirmishlaw03_FixOrder.j1 kj5 a0 a1 a2 (decide (t128 > t129)))))))))))) = some r := H
              have A22 := Aside0.mk A220
              clear A220
              by_cases c23 : t122 > t123
              · rw [if_pos c23] at H
                have c23b0 : decide (t123 < t122) = true := decide_eq_true c23
                clear c23
                (first | rw [c23b0] | (simp only [i64_w, i32_w]; rw [c23b0]) | skip)
                have H' := Aside0.mk H
                clear H
                go_wp2_with (first | ((with_reducible refine gate_callee (f := 18) rfl ?_); refine goesL_ (some 48) rfl rfl Try.func18 (by kernel_rfl) rfl #[.int .i64 a0, .int .i64 a1] rfl (by (try simp only [List.map_toArray, List.map_cons, List.map_nil]); first | done | rfl | (simp only [List.length_drop, List.length_take]; rfl)) ?_; (with_reducible refine (fix_Add.calls kj5 a0 a1 t122 _ A21.out).mono ?_); rintro e w' ⟨rfl, ⟨nd, rfl⟩⟩; refine ⟨_, rfl, ?_⟩) | ((with_reducible refine gate_callee (f := 18) rfl ?_); refine goesL_ (some 51) rfl rfl Try.func18 (by kernel_rfl) rfl #[.int .i64 a0, .int .i64 a2] rfl (by (try simp only [List.map_toArray, List.map_cons, List.map_nil]); first | done | rfl | (simp only [List.length_drop, List.length_take]; rfl)) ?_; (with_reducible refine (fix_Add.calls kj5 a0 a2 t123 _ A22.out).mono ?_); rintro e w' ⟨rfl, ⟨nd, rfl⟩⟩; refine ⟨_, rfl, ?_⟩))
                go_meet
                case rel => exact ⟨_, (true), (by first | rfl | (simp; done) | (simp [*]; done)), H', ⟨by have := HJ5.out; first | omega | exact Nat.le_refl _⟩, by repeat (first | exact Drawn0.refl _ | apply Drawn0.step)⟩
              · rw [if_neg c23] at H
                have c23b0 : decide (t123 < t122) = false := decide_eq_false c23
                clear c23
                (first | rw [c23b0] | (simp only [i64_w, i32_w]; rw [c23b0]) | skip)
                replace H := Option.bind_eq_some_iff.mp H
                obtain ⟨t124, A240, H⟩ := H
                replace H : ((fix_Sub.f kj5 a0 a2).bind fun t125 => (if t124 < t125 then (skirmishlaw03_FixOrder.j1 kj5 a0 a1 a2 true) else ((fix_Floor.f a1).bind fun t126 => ((fix_Floor.f a2).bind fun t127 => (if t126 > t127 then (skirmishlaw03_FixOrder.j1 kj5 a0 a1 a2 true) else ((fix_Of.f kj5 a1).bind fun t128 => ((fix_Of.f kj5 a2).bind fun t129 => (skirmishlaw03_FixOrder.j1 kj5 a0 a1 a2 (decide (t128 > t129)))))))))) = some r := H
                have A24 := Aside0.mk A240
                clear A240
                replace H := Option.bind_eq_some_iff.mp H
                obtain ⟨t125, A250, H⟩ := H
                replace H : (if t124 < t125 then (skirmishlaw03_FixOrder.j1 kj5 a0 a1 a2 true) else ((fix_Floor.f a1).bind fun t126 => ((fix_Floor.f a2).bind fun t127 => (if t126 > t127 then (skirmishlaw03_FixOrder.j1 kj5 a0 a1 a2 true) else ((fix_Of.f kj5 a1).bind fun t128 => ((fix_Of.f kj5 a2).bind fun t129 => (skirmishlaw03_FixOrder.j1 kj5 a0 a1 a2 (decide (t128 > t129))))))))) = some r := H
                have A25 := Aside0.mk A250
                clear A250
                by_cases c26 : t124 < t125
                · rw [if_pos c26] at H
                  have c26b0 : decide (t124 < t125) = true := decide_eq_true c26
                  clear c26
                  have H' := Aside0.mk H
                  clear H
                  go_wp2_with (first | ((with_reducible refine gate_callee (f := 18) rfl ?_); refine goesL_ (some 48) rfl rfl Try.func18 (by kernel_rfl) rfl #[.int .i64 a0, .int .i64 a1] rfl (by (try simp only [List.map_toArray, List.map_cons, List.map_nil]); first | done | rfl | (simp only [List.length_drop, List.length_take]; rfl)) ?_; (with_reducible refine (fix_Add.calls kj5 a0 a1 t122 _ A21.out).mono ?_); rintro e w' ⟨rfl, ⟨nd, rfl⟩⟩; refine ⟨_, rfl, ?_⟩) | ((with_reducible refine gate_callee (f := 18) rfl ?_); refine goesL_ (some 51) rfl rfl Try.func18 (by kernel_rfl) rfl #[.int .i64 a0, .int .i64 a2] rfl (by (try simp only [List.map_toArray, List.map_cons, List.map_nil]); first | done | rfl | (simp only [List.length_drop, List.length_take]; rfl)) ?_; (with_reducible refine (fix_Add.calls kj5 a0 a2 t123 _ A22.out).mono ?_); rintro e w' ⟨rfl, ⟨nd, rfl⟩⟩; refine ⟨_, rfl, ?_⟩) | (go_at_call 20; (with_reducible refine (fix_Sub.calls kj5 a0 a1 t124 _ A24.out).mono ?_); rintro e w' ⟨rfl, ⟨nd, rfl⟩⟩) | (go_at_call 20; (with_reducible refine (fix_Sub.calls kj5 a0 a2 t125 _ A25.out).mono ?_); rintro e w' ⟨rfl, ⟨nd, rfl⟩⟩))
                  go_meet
                  case rel => exact ⟨_, (true), (by first | rfl | (simp; done) | (simp [*]; done)), H', ⟨by have := HJ5.out; first | omega | exact Nat.le_refl _⟩, by repeat (first | exact Drawn0.refl _ | apply Drawn0.step)⟩
                · rw [if_neg c26] at H
                  have c26b0 : decide (t124 < t125) = false := decide_eq_false c26
                  clear c26
                  replace H := Option.bind_eq_some_iff.mp H
                  obtain ⟨t126, A270, H⟩ := H
                  replace H : ((fix_Floor.f a2).bind fun t127 => (if t126 > t127 then (skirmishlaw03_FixOrder.j1 kj5 a0 a1 a2 true) else ((fix_Of.f kj5 a1).bind fun t128 => ((fix_Of.f kj5 a2).bind fun t129 => (skirmishlaw03_FixOrder.j1 kj5 a0 a1 a2 (decide (t128 > t129))))))) = some r := H
                  have A27 := Aside0.mk A270
                  clear A270
                  replace H := Option.bind_eq_some_iff.mp H
                  obtain ⟨t127, A280, H⟩ := H
                  replace H : (if t126 > t127 then (skirmishlaw03_FixOrder.j1 kj5 a0 a1 a2 true) else ((fix_Of.f kj5 a1).bind fun t128 => ((fix_Of.f kj5 a2).bind fun t129 => (skirmishlaw03_FixOrder.j1 kj5 a0 a1 a2 (decide (t128 > t129)))))) = some r := H
                  have A28 := Aside0.mk A280
                  clear A280
                  by_cases c29 : t126 > t127
                  · rw [if_pos c29] at H
                    have c29b0 : decide (t127 < t126) = true := decide_eq_true c29
                    clear c29
                    have H' := Aside0.mk H
                    clear H
                    go_wp2_with (first | ((with_reducible refine gate_callee (f := 18) rfl ?_); refine goesL_ (some 48) rfl rfl Try.func18 (by kernel_rfl) rfl #[.int .i64 a0, .int .i64 a1] rfl (by (try simp only [List.map_toArray, List.map_cons, List.map_nil]); first | done | rfl | (simp only [List.length_drop, List.length_take]; rfl)) ?_; (with_reducible refine (fix_Add.calls kj5 a0 a1 t122 _ A21.out).mono ?_); rintro e w' ⟨rfl, ⟨nd, rfl⟩⟩; refine ⟨_, rfl, ?_⟩) | ((with_reducible refine gate_callee (f := 18) rfl ?_); refine goesL_ (some 51) rfl rfl Try.func18 (by kernel_rfl) rfl #[.int .i64 a0, .int .i64 a2] rfl (by (try simp only [List.map_toArray, List.map_cons, List.map_nil]); first | done | rfl | (simp only [List.length_drop, List.length_take]; rfl)) ?_; (with_reducible refine (fix_Add.calls kj5 a0 a2 t123 _ A22.out).mono ?_); rintro e w' ⟨rfl, ⟨nd, rfl⟩⟩; refine ⟨_, rfl, ?_⟩) | (go_at_call 20; (with_reducible refine (fix_Sub.calls kj5 a0 a1 t124 _ A24.out).mono ?_); rintro e w' ⟨rfl, ⟨nd, rfl⟩⟩) | (go_at_call 20; (with_reducible refine (fix_Sub.calls kj5 a0 a2 t125 _ A25.out).mono ?_); rintro e w' ⟨rfl, ⟨nd, rfl⟩⟩) | (go_at_call 16; (with_reducible refine (fix_Floor.calls a1 t126 _ A27.out).mono ?_); rintro e w' ⟨rfl, ⟨nd, rfl⟩⟩) | (go_at_call 16; (with_reducible refine (fix_Floor.calls a2 t127 _ A28.out).mono ?_); rintro e w' ⟨rfl, ⟨nd, rfl⟩⟩))
                    go_meet
                    case rel => exact ⟨_, (true), (by first | rfl | (simp; done) | (simp [*]; done)), H', ⟨by have := HJ5.out; first | omega | exact Nat.le_refl _⟩, by repeat (first | exact Drawn0.refl _ | apply Drawn0.step)⟩
                  · rw [if_neg c29] at H
                    have c29b0 : decide (t127 < t126) = false := decide_eq_false c29
                    clear c29
                    replace H := Option.bind_eq_some_iff.mp H
                    obtain ⟨t128, A300, H⟩ := H
                    replace H : ((fix_Of.f kj5 a2).bind fun t129 => (skirmishlaw03_FixOrder.j1 kj5 a0 a1 a2 (decide (t128 > t129)))) = some r := H
                    have A30 := Aside0.mk A300
                    clear A300
                    replace H := Option.bind_eq_some_iff.mp H
                    obtain ⟨t129, A310, H⟩ := H
                    replace H : (skirmishlaw03_FixOrder.j1 kj5 a0 a1 a2 (decide (t128 > t129))) = some r := H
                    have A31 := Aside0.mk A310
                    clear A310
                    have H' := Aside0.mk H
                    clear H
                    go_wp2_with (first | ((with_reducible refine gate_callee (f := 18) rfl ?_); refine goesL_ (some 48) rfl rfl Try.func18 (by kernel_rfl) rfl #[.int .i64 a0, .int .i64 a1] rfl (by (try simp only [List.map_toArray, List.map_cons, List.map_nil]); first | done | rfl | (simp only [List.length_drop, List.length_take]; rfl)) ?_; (with_reducible refine (fix_Add.calls kj5 a0 a1 t122 _ A21.out).mono ?_); rintro e w' ⟨rfl, ⟨nd, rfl⟩⟩; refine ⟨_, rfl, ?_⟩) | ((with_reducible refine gate_callee (f := 18) rfl ?_); refine goesL_ (some 51) rfl rfl Try.func18 (by kernel_rfl) rfl #[.int .i64 a0, .int .i64 a2] rfl (by (try simp only [List.map_toArray, List.map_cons, List.map_nil]); first | done | rfl | (simp only [List.length_drop, List.length_take]; rfl)) ?_; (with_reducible refine (fix_Add.calls kj5 a0 a2 t123 _ A22.out).mono ?_); rintro e w' ⟨rfl, ⟨nd, rfl⟩⟩; refine ⟨_, rfl, ?_⟩) | (go_at_call 20; (with_reducible refine (fix_Sub.calls kj5 a0 a1 t124 _ A24.out).mono ?_); rintro e w' ⟨rfl, ⟨nd, rfl⟩⟩) | (go_at_call 20; (with_reducible refine (fix_Sub.calls kj5 a0 a2 t125 _ A25.out).mono ?_); rintro e w' ⟨rfl, ⟨nd, rfl⟩⟩) | (go_at_call 16; (with_reducible refine (fix_Floor.calls a1 t126 _ A27.out).mono ?_); rintro e w' ⟨rfl, ⟨nd, rfl⟩⟩) | (go_at_call 16; (with_reducible refine (fix_Floor.calls a2 t127 _ A28.out).mono ?_); rintro e w' ⟨rfl, ⟨nd, rfl⟩⟩) | (go_at_call 14; (with_reducible refine (fix_Of.calls kj5 a1 t128 _ A30.out).mono ?_); rintro e w' ⟨rfl, ⟨nd, rfl⟩⟩) | (go_at_call 14; (with_reducible refine (fix_Of.calls kj5 a2 t129 _ A31.out).mono ?_); rintro e w' ⟨rfl, ⟨nd, rfl⟩⟩))
                    go_meet
                    case rel => exact ⟨_, (decide (t128 > t129)), (by first | rfl | (simp; done) | (simp [*]; done)), H', ⟨by have := HJ5.out; first | omega | exact Nat.le_refl _⟩, by repeat (first | exact Drawn0.refl _ | apply Drawn0.step)⟩
            case rest =>
              clear HC20
              try clear c1
              try clear c2
              try clear p2
              try clear c5
              try clear c6
              try clear c9
              try clear c9b0
              try clear c9b1
              try clear c12
              try clear c12b0
              try clear c12b1
              try clear c14
              try clear c14b0
              try clear c14b1
              try clear c16
              try clear c16b0
              try clear c16b1
              try clear c18
              try clear c19
              try clear c19b0
              try clear c23
              try clear c23b0
              try clear c26
              try clear c26b0
              try clear c29
              try clear c29b0
              try clear p2
              obtain ⟨kq, x75_19, rfl, HA, HJ19, ⟨mc19, rfl⟩⟩ := hcut
              cases kq with
              | zero => exact absurd HA.out (by simp [skirmishlaw03_FixOrder.j1])
              | succ kj19 =>
                have H := HA.out
                clear HA
                simp only [skirmishlaw03_FixOrder.j1] at H
                by_cases c32 : x75_19 = true
                · subst c32
                  have H1 : (some false) = some r := by rw [if_pos rfl] at H; exact H
                  clear H
                  have H := H1
                  clear H1
                  obtain rfl := Option.some.inj H
                  go_wp2
                  go_ret
                  exact ⟨by first | rfl | (simp; done) | (simp [*]; done), by repeat (first | exact Drawn0.refl _ | apply Drawn0.step)⟩
                · replace c32 := Bool.eq_false_iff.mpr c32
                  subst c32
                  have H1 : (if a0 < 0 then (some true) else ((fix_Mul.f kj19 a0 a1).bind fun t130 => ((fix_Mul.f kj19 a0 a2).bind fun t131 => (some (decide (t130 ≤ t131)))))) = some r := by rw [if_neg (show ¬ (false = true) by decide)] at H; exact H
                  clear H
                  have H := H1
                  clear H1
                  by_cases c33 : a0 < 0
                  · rw [if_pos c33] at H
                    have c33b0 : decide (a0 < 0) = true := decide_eq_true c33
                    clear c33
                    obtain rfl := Option.some.inj H
                    go_wp2
                    go_ret
                    exact ⟨by first | rfl | (simp; done) | (simp [*]; done), by repeat (first | exact Drawn0.refl _ | apply Drawn0.step)⟩
                  · rw [if_neg c33] at H
                    have c33b0 : decide (a0 < 0) = false := decide_eq_false c33
                    clear c33
                    replace H := Option.bind_eq_some_iff.mp H
                    obtain ⟨t130, A340, H⟩ := H
                    replace H : ((fix_Mul.f kj19 a0 a2).bind fun t131 => (some (decide (t130 ≤ t131)))) = some r := H
                    have A34 := Aside0.mk A340
                    clear A340
                    replace H := Option.bind_eq_some_iff.mp H
                    obtain ⟨t131, A350, H⟩ := H
                    replace H : (some (decide (t130 ≤ t131))) = some r := H
                    have A35 := Aside0.mk A350
                    clear A350
                    obtain rfl := Option.some.inj H
                    go_wp2_with (first | (go_at_call 22; (with_reducible refine (fix_Mul.calls kj19 a0 a1 t130 _ A34.out).mono ?_); rintro e w' ⟨rfl, ⟨nd, rfl⟩⟩) | (go_at_call 22; (with_reducible refine (fix_Mul.calls kj19 a0 a2 t131 _ A35.out).mono ?_); rintro e w' ⟨rfl, ⟨nd, rfl⟩⟩))
                    go_ret
                    exact ⟨by first | rfl | (simp; done) | (simp [*]; done), by repeat (first | exact Drawn0.refl _ | apply Drawn0.step)⟩
  · replace c5 := Bool.eq_false_iff.mpr c5
    subst c5
    have H1 : (some false) = some r := by rw [if_neg (show ¬ (false = true) by decide)] at H; exact H
    clear H
    have H := H1
    clear H1
    obtain rfl := Option.some.inj H
    go_enter Try.func6, Try.ntmps6
    go_wp2_with (first | ((with_reducible refine gate_callee (f := 9) rfl ?_); refine goesL_ (some 7) rfl rfl Try.func9 (by kernel_rfl) rfl #[] rfl (by (try simp only [List.map_toArray, List.map_cons, List.map_nil]); first | done | rfl | (simp only [List.length_drop, List.length_take]; rfl)) ?_; (with_reducible refine (skirmishlaw03_awake.calls k  false _ A4.out).mono ?_); rintro e w' ⟨rfl, ⟨nd, rfl⟩⟩; refine ⟨_, rfl, ?_⟩))
    go_ret
    exact ⟨by first | rfl | (simp; done) | (simp [*]; done), by repeat (first | exact Drawn0.refl _ | apply Drawn0.step)⟩

/-- THE ONE PURE STATEMENT of skirmishlaw03_FixOrder: yours. -/
def skirmishlaw03_FixOrder.Pure : Prop := ∀ (a0 : Int) (a1 : Int) (a2 : Int), (Lit.int .i64 a0).wf = true → (Lit.int .i64 a1).wf = true → (Lit.int .i64 a2).wf = true → ∃ k, skirmishlaw03_FixOrder.f k a0 a1 a2 = some true
theorem skirmishlaw03_FixOrder.walk (P : skirmishlaw03_FixOrder.Pure) (a0 : Int) (a1 : Int) (a2 : Int) (w : World) (w0 : (Lit.int .i64 a0).wf = true) (w1 : (Lit.int .i64 a1).wf = true) (w2 : (Lit.int .i64 a2).wf = true) :
    Calls Try.prog 6 #[.int .i64 a0, .int .i64 a1, .int .i64 a2] w fun e w' => e = .returned (.bool true) ∧ Below w.heap.size w w' := by
  obtain ⟨k, h⟩ := P a0 a1 a2 w0 w1 w2
  refine (skirmishlaw03_FixOrder.calls k a0 a1 a2 true w h).mono ?_
  rintro e w' ⟨rfl, hd⟩
  exact ⟨rfl, hd.below⟩

end Go.Proofs.Ytbccafpaeplabaa.PFixOrder
