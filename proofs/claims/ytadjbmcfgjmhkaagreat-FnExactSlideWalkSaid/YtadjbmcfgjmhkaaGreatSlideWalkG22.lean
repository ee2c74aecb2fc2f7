import Derived.Test.YtadjbmcfgjmhkaaGreatSlideWalkG21
namespace Go.Proofs.YtadjbmcfgjmhkaaGreat.P
open Go.RowKit YtadjbmcfgjmhkaaGreatW.PrintWords YtadjbmcfgjmhkaaGreatW.PrintLast YtadjbmcfgjmhkaaGreatW.PrintMore
attribute [local go_sem] aX aT aU aM aV aN aW aQ
set_option maxRecDepth 100000
set_option maxHeartbeats 8000000
set_option linter.unusedVariables false
set_option linter.unusedSimpArgs false
def ed : Nat → List Int → List Int → Int → Option (Bool)
 | 0, _, _, _ => none
 | k + 1, x0, x1, x5 => if x5 < (x0.length : Int) then (if 0 ≤ x5 then (if x5 < (x1.length : Int) then (if (rd x0 x5) = (rd x1 x5) then (ed k x0 x1 (wrap64 (x5 + 1))) else (some false)) else (none)) else (none)) else (some true)
def eO (k : Nat) (l0 : List Int) (l1 : List Int) : Option (Bool) := if (l0.length : Int) = (l1.length : Int) then (ed k l0 l1 0) else (some false)
theorem ee (k : Nat) (A0 : Option Addr) (c0 : Nat) (l0 : List Int) (A1 : Option Addr) (c1 : Nat) (l1 : List Int) (r : Bool) (w : World) (hr0 : Kd.C (Kd.int .i64) w A0 l0.length l0) (hc0 : l0.length ≤ c0) (hr1 : Kd.C (Kd.int .i64) w A1 l1.length l1) (hc1 : l1.length ≤ c1) (h : eO k l0 l1 = some r) :
 Calls Tryz.prog 15 #[.slice A0 l0.length c0, .slice A1 l1.length c1] w fun e w' => e = .returned (.bool r) ∧ Drawn0 w w' := by
 have HR0 := Aside0.mk hr0
 have HC0 := Aside0.mk hc0
 clear hr0 hc0
 have HR1 := Aside0.mk hr1
 have HC1 := Aside0.mk hc1
 clear hr1 hc1
 have H := h
 unfold eO at H
 clear h
 by_cases c3 : (l0.length : Int) = (l1.length : Int)
 · rw [if_pos c3] at H
   have c3b0 : ((l0.length : Int) == (l1.length : Int)) = true := beq_iff_eq.mpr c3
   have c3b1 : ((l0.length : Int) != (l1.length : Int)) = false := bne_eq_false_iff_eq.mpr c3
   have c3b2 : (l0.length == l1.length) = true := by first | simpa using c3 | (simp at c3 ⊢; omega)
   clear c3
   have H' := Aside0.mk H
   clear H
   go_enter Tryz.func15, Tryz.ntmps15
   go_wp2
   repeat (go_quiet (fail); try go_wp2)
   go_loopg [5] k (fun kq v5 w' => ∃ (x5_1 : Int), v5 = .int .i64 x5_1 ∧ Aside0 (ed kq l0 l1 x5_1 = some r) ∧ Aside0 (kq ≤ k) ∧ Drawn0 w w')
   case atStart => exact ⟨(0), (by first | rfl | (simp; done) | (simp [*]; done)), H', ⟨au _⟩, by repeat (first | exact Drawn0.refl _ | apply Drawn0.step)⟩
   case round =>
    clear H'
    try clear c1
    try clear p2
    try clear c3
    try clear c3b0
    try clear c3b1
    try clear c3b2
    obtain ⟨x5_1, rfl, HA, HK1, ⟨m1, rfl⟩⟩ := hrel
    cases gk with
    | zero => exact absurd HA.out (by simp [ed])
    | succ k1 =>
     have H := HA.out
     clear HA
     simp only [ed] at H
     by_cases c4 : x5_1 < (l0.length : Int)
     · rw [if_pos c4] at H
       have c4b0 := ag c4
       clear c4
       by_cases c5 : 0 ≤ x5_1
       case neg => rw [if_neg c5] at H; simp at H
       rw [if_pos c5] at H
       have c5b0 := ag c5
       clear c5
       by_cases c6 : x5_1 < (l1.length : Int)
       case neg => rw [if_neg c6] at H; simp at H
       rw [if_pos c6] at H
       have c6b0 := ag c6
       clear c6
       by_cases c7 : (rd l0 x5_1) = (rd l1 x5_1)
       · rw [if_pos c7] at H
         have c7b0 : ((rd l0 x5_1) == (rd l1 x5_1)) = true := beq_iff_eq.mpr c7
         have c7b1 : ((rd l0 x5_1) != (rd l1 x5_1)) = false := bne_eq_false_iff_eq.mpr c7
         clear c7
         have H' := Aside0.mk H
         clear H
         have p127 : 0 ≤ (x5_1 : Int) := ac zA
         have q127 : x5_1 < (l0.length : Int) := ac zA
         obtain ⟨ad127, e127, hx127_0⟩ := Kd.at_int HR0.out x5_1 p127 q127
         cases e127
         replace p127 := eq_true p127
         replace q127 := eq_true q127
         have p128 : 0 ≤ (x5_1 : Int) := ac zA
         have q128 : x5_1 < (l1.length : Int) := ac zA
         obtain ⟨ad128, e128, hx128_0⟩ := Kd.at_int HR1.out x5_1 p128 q128
         cases e128
         replace p128 := eq_true p128
         replace q128 := eq_true q128
         go_wp2
         repeat (go_quiet (fail); try go_wp2)
         go_roundg k1
         case measure => have := HK1.out; omega
         case rel => exact ⟨(wrap64 (x5_1 + 1)), (by first | rfl | (simp; done) | (simp [*]; done)), H', ⟨by have := HK1.out; omega⟩, by repeat (first | exact Drawn0.refl _ | apply Drawn0.step)⟩
       · rw [if_neg c7] at H
         have c7b0 : ((rd l0 x5_1) == (rd l1 x5_1)) = false := beq_eq_false_iff_ne.mpr c7
         have c7b1 : ((rd l0 x5_1) != (rd l1 x5_1)) = true := bne_iff_ne.mpr c7
         obtain rfl := ao H
         have p127 : 0 ≤ (x5_1 : Int) := ac zA
         have q127 : x5_1 < (l0.length : Int) := ac zA
         obtain ⟨ad127, e127, hx127_0⟩ := Kd.at_int HR0.out x5_1 p127 q127
         cases e127
         replace p127 := eq_true p127
         replace q127 := eq_true q127
         have p128 : 0 ≤ (x5_1 : Int) := ac zA
         have q128 : x5_1 < (l1.length : Int) := ac zA
         obtain ⟨ad128, e128, hx128_0⟩ := Kd.at_int HR1.out x5_1 p128 q128
         cases e128
         replace p128 := eq_true p128
         replace q128 := eq_true q128
         go_wp2
         repeat (go_quiet (fail); try go_wp2)
         go_ret
         exact ⟨by first | rfl | (simp; done) | (simp [*]; done), by repeat (first | exact Drawn0.refl _ | apply Drawn0.step)⟩
     · rw [if_neg c4] at H
       have c4b0 : decide (x5_1 < (l0.length : Int)) = false := ar c4
       clear c4
       obtain rfl := ao H
       go_wp2
       repeat (go_quiet (fail); try go_wp2)
       go_ret
       exact ⟨by first | rfl | (simp; done) | (simp [*]; done), by repeat (first | exact Drawn0.refl _ | apply Drawn0.step)⟩
 · rw [if_neg c3] at H
   have c3b0 : ((l0.length : Int) == (l1.length : Int)) = false := beq_eq_false_iff_ne.mpr c3
   have c3b1 : ((l0.length : Int) != (l1.length : Int)) = true := bne_iff_ne.mpr c3
   have c3b2 : (l0.length == l1.length) = false := by first | simpa using c3 | (simp at c3 ⊢; omega)
   obtain rfl := ao H
   go_enter Tryz.func15, Tryz.ntmps15
   go_wp2
   repeat (go_quiet (fail); try go_wp2)
   go_ret
   exact ⟨by first | rfl | (simp; done) | (simp [*]; done), by repeat (first | exact Drawn0.refl _ | apply Drawn0.step)⟩
def eb : Nat → List (List Int) → List (List Int) → Int → Option (Bool)
 | 0, _, _, _ => none
 | k + 1, x0, x1, x5 => if x5 < (x0.length : Int) then (if 0 ≤ x5 then (if x5 < (x1.length : Int) then ((eO k (af x0 x5) (af x1 x5)).bind fun t131 => (if t131 = true then (eb k x0 x1 (wrap64 (x5 + 1))) else (some false))) else (none)) else (none)) else (some true)
def gv (k : Nat) (l0 : List (List Int)) (l1 : List (List Int)) : Option (Bool) := if (l0.length : Int) = (l1.length : Int) then (eb k l0 l1 0) else (some false)
theorem jv (k : Nat) (A0 : Option Addr) (c0 : Nat) (l0 : List (List Int)) (A1 : Option Addr) (c1 : Nat) (l1 : List (List Int)) (r : Bool) (w : World) (hr0 : Kd.C (Kd.slice 3 (Kd.int .i64)) w A0 l0.length l0) (hc0 : l0.length ≤ c0) (hr1 : Kd.C (Kd.slice 3 (Kd.int .i64)) w A1 l1.length l1) (hc1 : l1.length ≤ c1) (h : gv k l0 l1 = some r) :
 Calls Tryz.prog 13 #[.slice A0 l0.length c0, .slice A1 l1.length c1] w fun e w' => e = .returned (.bool r) ∧ Drawn0 w w' := by
 have HR0 := Aside0.mk hr0
 have HC0 := Aside0.mk hc0
 clear hr0 hc0
 have HR1 := Aside0.mk hr1
 have HC1 := Aside0.mk hc1
 clear hr1 hc1
 have H := h
 unfold gv at H
 clear h
 by_cases c3 : (l0.length : Int) = (l1.length : Int)
 · rw [if_pos c3] at H
   have c3b0 : ((l0.length : Int) == (l1.length : Int)) = true := beq_iff_eq.mpr c3
   have c3b1 : ((l0.length : Int) != (l1.length : Int)) = false := bne_eq_false_iff_eq.mpr c3
   have c3b2 : (l0.length == l1.length) = true := by first | simpa using c3 | (simp at c3 ⊢; omega)
   clear c3
   have H' := Aside0.mk H
   clear H
   go_enter Tryz.func13, Tryz.ntmps13
   go_wp2
   repeat (go_quiet (fail); try go_wp2)
   go_loopg [5] k (fun kq v5 w' => ∃ (x5_1 : Int), v5 = .int .i64 x5_1 ∧ Aside0 (eb kq l0 l1 x5_1 = some r) ∧ Aside0 (kq ≤ k) ∧ Drawn0 w w')
   case atStart => exact ⟨(0), (by first | rfl | (simp; done) | (simp [*]; done)), H', ⟨au _⟩, by repeat (first | exact Drawn0.refl _ | apply Drawn0.step)⟩
   case round =>
    clear H'
    try clear c1
    try clear p2
    try clear c3
    try clear c3b0
    try clear c3b1
    try clear c3b2
    obtain ⟨x5_1, rfl, HA, HK1, ⟨m1, rfl⟩⟩ := hrel
    cases gk with
    | zero => exact absurd HA.out (by simp [eb])
    | succ k1 =>
     have H := HA.out
     clear HA
     simp only [eb] at H
     by_cases c4 : x5_1 < (l0.length : Int)
     · rw [if_pos c4] at H
       have c4b0 := ag c4
       clear c4
       by_cases c5 : 0 ≤ x5_1
       case neg => rw [if_neg c5] at H; simp at H
       rw [if_pos c5] at H
       have c5b0 := ag c5
       clear c5
       by_cases c6 : x5_1 < (l1.length : Int)
       case neg => rw [if_neg c6] at H; simp at H
       rw [if_pos c6] at H
       have c6b0 := ag c6
       clear c6
       replace H := ax H
       obtain ⟨t131, A70, H⟩ := H
       have A7 := Aside0.mk A70
       clear A70
       by_cases c8 : t131 = true
       · subst c8
         rw [if_pos rfl] at H
         have H' := Aside0.mk H
         clear H
         have p129 : 0 ≤ (x5_1 : Int) := ac zA
         have q129 : x5_1 < (l0.length : Int) := ac zA
         obtain ⟨ad129, A129_0, c129_0, e129, hx129_0, hl129_0, hi129_0⟩ := bf HR0.out x5_1 p129 q129
         cases e129
         have HR129_0 := Aside0.mk hi129_0
         have HC129_0 := Aside0.mk hl129_0
         clear hi129_0 hl129_0
         replace p129 := eq_true p129
         replace q129 := eq_true q129
         have p130 : 0 ≤ (x5_1 : Int) := ac zA
         have q130 : x5_1 < (l1.length : Int) := ac zA
         obtain ⟨ad130, A130_0, c130_0, e130, hx130_0, hl130_0, hi130_0⟩ := bf HR1.out x5_1 p130 q130
         cases e130
         have HR130_0 := Aside0.mk hi130_0
         have HC130_0 := Aside0.mk hl130_0
         clear hi130_0 hl130_0
         replace p130 := eq_true p130
         replace q130 := eq_true q130
         go_wp2_with (first | (go_at_call 15; (with_reducible refine (ee k1 _ _ (af l0 x5_1) _ _ (af l1 x5_1) true _ ?side1 ?side2 ?side3 ?side4 A7.out).mono ?_); (case side1 => exact zC HR129_0.out); (case side2 => exact HC129_0.out); (case side3 => exact zC HR130_0.out); (case side4 => exact HC130_0.out); rintro e w' ⟨rfl, ⟨nd, rfl⟩⟩; (try exact zD)))
         repeat (go_quiet (first | (go_at_call 15; (with_reducible refine (ee k1 _ _ (af l0 x5_1) _ _ (af l1 x5_1) true _ ?side1 ?side2 ?side3 ?side4 A7.out).mono ?_); (case side1 => exact zC HR129_0.out); (case side2 => exact HC129_0.out); (case side3 => exact zC HR130_0.out); (case side4 => exact HC130_0.out); rintro e w' ⟨rfl, ⟨nd, rfl⟩⟩; (try exact zD))); try go_wp2_with (first | (go_at_call 15; (with_reducible refine (ee k1 _ _ (af l0 x5_1) _ _ (af l1 x5_1) true _ ?side1 ?side2 ?side3 ?side4 A7.out).mono ?_); (case side1 => exact zC HR129_0.out); (case side2 => exact HC129_0.out); (case side3 => exact zC HR130_0.out); (case side4 => exact HC130_0.out); rintro e w' ⟨rfl, ⟨nd, rfl⟩⟩; (try exact zD))))
         go_roundg k1
         case measure => have := HK1.out; omega
         case rel => exact ⟨(wrap64 (x5_1 + 1)), (by first | rfl | (simp; done) | (simp [*]; done)), H', ⟨by have := HK1.out; omega⟩, by repeat (first | exact Drawn0.refl _ | apply Drawn0.step)⟩
       · replace c8 := Bool.eq_false_iff.mpr c8
         subst c8
         rw [if_neg (show ¬ (false = true) by decide)] at H
         obtain rfl := ao H
         have p129 : 0 ≤ (x5_1 : Int) := ac zA
         have q129 : x5_1 < (l0.length : Int) := ac zA
         obtain ⟨ad129, A129_0, c129_0, e129, hx129_0, hl129_0, hi129_0⟩ := bf HR0.out x5_1 p129 q129
         cases e129
         have HR129_0 := Aside0.mk hi129_0
         have HC129_0 := Aside0.mk hl129_0
         clear hi129_0 hl129_0
         replace p129 := eq_true p129
         replace q129 := eq_true q129
         have p130 : 0 ≤ (x5_1 : Int) := ac zA
         have q130 : x5_1 < (l1.length : Int) := ac zA
         obtain ⟨ad130, A130_0, c130_0, e130, hx130_0, hl130_0, hi130_0⟩ := bf HR1.out x5_1 p130 q130
         cases e130
         have HR130_0 := Aside0.mk hi130_0
         have HC130_0 := Aside0.mk hl130_0
         clear hi130_0 hl130_0
         replace p130 := eq_true p130
         replace q130 := eq_true q130
         go_wp2_with (first | (go_at_call 15; (with_reducible refine (ee k1 _ _ (af l0 x5_1) _ _ (af l1 x5_1) false _ ?side1 ?side2 ?side3 ?side4 A7.out).mono ?_); (case side1 => exact zC HR129_0.out); (case side2 => exact HC129_0.out); (case side3 => exact zC HR130_0.out); (case side4 => exact HC130_0.out); rintro e w' ⟨rfl, ⟨nd, rfl⟩⟩; (try exact zD)))
         repeat (go_quiet (first | (go_at_call 15; (with_reducible refine (ee k1 _ _ (af l0 x5_1) _ _ (af l1 x5_1) false _ ?side1 ?side2 ?side3 ?side4 A7.out).mono ?_); (case side1 => exact zC HR129_0.out); (case side2 => exact HC129_0.out); (case side3 => exact zC HR130_0.out); (case side4 => exact HC130_0.out); rintro e w' ⟨rfl, ⟨nd, rfl⟩⟩; (try exact zD))); try go_wp2_with (first | (go_at_call 15; (with_reducible refine (ee k1 _ _ (af l0 x5_1) _ _ (af l1 x5_1) false _ ?side1 ?side2 ?side3 ?side4 A7.out).mono ?_); (case side1 => exact zC HR129_0.out); (case side2 => exact HC129_0.out); (case side3 => exact zC HR130_0.out); (case side4 => exact HC130_0.out); rintro e w' ⟨rfl, ⟨nd, rfl⟩⟩; (try exact zD))))
         go_ret
         exact ⟨by first | rfl | (simp; done) | (simp [*]; done), by repeat (first | exact Drawn0.refl _ | apply Drawn0.step)⟩
     · rw [if_neg c4] at H
       have c4b0 : decide (x5_1 < (l0.length : Int)) = false := ar c4
       clear c4
       obtain rfl := ao H
       go_wp2
       repeat (go_quiet (fail); try go_wp2)
       go_ret
       exact ⟨by first | rfl | (simp; done) | (simp [*]; done), by repeat (first | exact Drawn0.refl _ | apply Drawn0.step)⟩
 · rw [if_neg c3] at H
   have c3b0 : ((l0.length : Int) == (l1.length : Int)) = false := beq_eq_false_iff_ne.mpr c3
   have c3b1 : ((l0.length : Int) != (l1.length : Int)) = true := bne_iff_ne.mpr c3
   have c3b2 : (l0.length == l1.length) = false := by first | simpa using c3 | (simp at c3 ⊢; omega)
   obtain rfl := ao H
   go_enter Tryz.func13, Tryz.ntmps13
   go_wp2
   repeat (go_quiet (fail); try go_wp2)
   go_ret
   exact ⟨by first | rfl | (simp; done) | (simp [*]; done), by repeat (first | exact Drawn0.refl _ | apply Drawn0.step)⟩
def gr (a0_0 : Int) (l0_1 : List (S69)) (a1 : Int) : Option (Int × (List (S69))) := (ju l0_1 a1).bind fun bt133 => (some (bt133.1, bt133.2))
theorem pS (a0_0 : Int) (P0_1_ : Nat → Prop) (u9000_ : Value) (l0_1 : List (S69)) (a1 : Int) (r1 : Int) (r2 : List (S69)) (w0 w : World) (hB : Below w0.heap.size w0 w) (ho0_1 : Kd.R k69 69 w w0.heap.size P0_1_ u9000_ l0_1) (h : gr a0_0 l0_1 a1 = some (r1, r2)) :
 Calls Tryz.prog 16 #[.agg #[.int .i64 a0_0, u9000_], .int .i64 a1] w fun e w' => e = .returned (.int .i64 r1) ∧ Kd.R k69 69 w' w0.heap.size (fun k_ => (P0_1_ k_ ∨ w.heap.size ≤ k_)) u9000_ r2 ∧ Below w0.heap.size w0 w' ∧ Kept w w' (fun k_ => P0_1_ k_) := by
 have hu30 := Tryz.underlying30
 have HO0_1 := zM (show Kd.R k69 69 w w0.heap.size (fun k_ => (P0_1_ k_ ∨ w.heap.size ≤ k_)) u9000_ l0_1 from Kd.R_mono ho0_1 (fun k_ hk => (.inl hk)))
 have HK := zM (Kept.refl w (fun k_ => P0_1_ k_))
 have HW0 := Aside0.mk hB.size
 have HB := Aside0.mk hB
 clear hB
 have H := h
 unfold gr at H
 clear h
 replace H := ax H
 obtain ⟨⟨t133, t134⟩, A30, H⟩ := H
 try dsimp only at H
 have A3 := Aside0.mk A30
 clear A30
 simp only [Option.some.injEq, Prod.mk.injEq] at H
 obtain ⟨rfl, rfl⟩ := H
 obtain ⟨Ao4, co4, eo4⟩ := Kd.R_slice HO0_1.out
 subst eo4
 go_enter Tryz.func16, Tryz.ntmps16
 go_wp2_with (first | ((with_reducible refine ap (N := 2) rfl ?_); refine ze 2 #[.int .i64 a0_0, .slice Ao4 l0_1.length co4] 30 ?_; intro gb132 hg w5 hbox hb; replace HO0_1 := zM (Kd.R_below (zR HO0_1.out) hb); have BK132 := zM (hbox); have GW132 := zM ((by rw [hg]; exact (by first | exact HK.out.1 | exact (show Kept w _ (fun k_ => P0_1_ k_) from by repeat (first | (with_reducible first | exact HK.out | apply Kept.alloc | apply Kept.drewN | apply Kept.drew) | exact HK.out)).1) : w.heap.size ≤ gb132)); replace HK := zM (Kept.below (S := (fun k_ => P0_1_ k_)) (by repeat (first | (with_reducible first | exact HK.out | apply Kept.alloc | apply Kept.drewN | apply Kept.drew) | exact HK.out)) hb); have GE132 := zM ((by rw [hg]; exact (ai zB) : w0.heap.size ≤ gb132)); replace HB := zM (ah zB hb); clear hb hbox hg; have hcz6_0 := zy BK132 0; have hcz6_1 := zy BK132 1; have hfz6_0 := ae BK132.out 0; have hfz6_1 := ae BK132.out 1) | ((with_reducible refine ay (f := 40) rfl ?_); refine zc 8 Tryz.func40 #[.slice Ao4 l0_1.length co4, .int .i64 a1] ?_; (with_reducible refine (pR (fun k_ => some k_ = (.slice Ao4 l0_1.length co4 : Value).ownBlock) (.slice Ao4 l0_1.length co4) l0_1 a1 t133 t134 w0 _ ?side1 ?side2 A3.out).mono ?_); (case side1 => repeat (first | (with_reducible first | exact HB.out | apply bp | apply bO | apply aC | refine bz ?_ GE132.out) | exact HB.out)); (case side2 => exact Kd.R_tight rfl HO0_1.out); rintro e w7 ⟨rfl, hy0, hb, hkp⟩; refine ⟨_, rfl, ?_⟩; replace BK132 := zM (gQ (zK BK132.out) hkp (fun hs_ => (fun e_ => (Kd.R_ne HO0_1.out BK132.out (by decide)) e_) hs_)); replace HK := zM (Kept.then_ (S := (fun k_ => P0_1_ k_)) (by repeat (first | (with_reducible first | exact HK.out | apply Kept.alloc | apply Kept.drewN | apply Kept.drew | refine Kept.setCell ?_ (.inr GW132.out) _) | exact HK.out)) hkp (fun k_ hs_ => (fun e_ => (HO0_1.out.1 k_ e_.symm)) hs_)); replace HO0_1 := zM (Kd.R_reok rfl hy0 (fun k_ e_ => HO0_1.out.1 k_ e_)); replace HB := zM (hb); (try clear hb); (try clear hkp); (try clear hy0)))
 go_ret
 exact ⟨by first | rfl | (simp [al, ak] <;> rfl) | (simp [*, al, ak] <;> rfl), by (with_reducible repeat (first | apply Kd.R_alloc | apply Kd.R_drewN | apply Kd.R_drew)); exact HO0_1.out, by repeat (first | (with_reducible first | exact HB.out | apply bp | apply bO | apply aC | refine bz ?_ GE132.out) | exact HB.out), by repeat (first | (with_reducible first | exact HK.out | apply Kept.alloc | apply Kept.drewN | apply Kept.drew | refine Kept.setCell ?_ (.inr GW132.out) _) | exact HK.out)⟩
section
variable {α β : Type}
theorem Ev.pos {c : Prop} [Decidable c] {f g : Nat → Option α} {r : α} (h : c) (k : Ev f r) : Ev (fun n => if c then f n else g n) r := by simpa only [if_pos h] using k
theorem Ev.neg {c : Prop} [Decidable c] {f g : Nat → Option α} {r : α} (h : ¬ c) (k : Ev g r) : Ev (fun n => if c then f n else g n) r := by simpa only [if_neg h] using k
theorem Ev.bindo {o : Option α} {f : Nat → α → Option β} {a : α} {r : β} (h : o = some a) (k : Ev (fun n => f n a) r) : Ev (fun n => o.bind (f n)) r := by simpa only [h, Option.bind_some] using k
theorem Ev.some {o : Option α} {r : α} (h : o = some r) : Ev (fun _ => o) r := ⟨0, fun _ _ => h⟩
end
theorem b5 {m : Int} (h : -9223372036854775808 ≤ m) (h2 : m ≤ 9223372036854775807) : wrap64 m = m := by unfold wrap64; omega
theorem aY {m n : Nat} (h : m < n) (hn : n ≤ 9223372036854775807) : wrap64 ((m : Int) + 1) = ((m + 1 : Nat) : Int) := by unfold wrap64; omega
theorem bl (l : List Int) (m : Nat) (h : m < l.length) : rd l (m : Int) = l[m] := by simp [rd, List.getD_eq_getElem?_getD, List.getElem?_eq_getElem h]
theorem dd (l : List S69) (m : Nat) (h : m < l.length) : aa l (m : Int) = l[m] := by simp [aa, List.getD_eq_getElem?_getD, List.getElem?_eq_getElem h]
theorem nu (a : Int) (l : List S69) (hl : l.length ≤ 9223372036854775807) : ∃ t, fw a l 1048576 = some t ∧ (t < 0 ∨ l.length ≤ 1048576) := by
 unfold fw il
 rw [b5 (m := 1048576 - (l.length : Int)) (by omega) (by omega)]
 by_cases h : (1048576 - (l.length : Int)) < 0
 · rw [if_pos h]; exact ⟨-1, rfl, .inl (by omega)⟩
 · rw [if_neg h, Option.bind_some, if_neg h]; exact ⟨_, rfl, .inr (by omega)⟩
theorem ky {α : Type} (l acc : List α) (m : Nat) (hm : m < l.length) (ha : acc.length = l.length) (h : acc.take m = l.take m) : (acc.set m l[m]).take (m + 1) = l.take (m + 1) := by
 rw [List.take_succ_eq_append_getElem (by rw [List.length_set]; omega), List.take_succ_eq_append_getElem hm, List.getElem_set_self, List.take_set_of_le (au _), h]
theorem nm (l : List S69) (hl : l.length ≤ 1048576) (d : Nat) : ∀ (acc : List S69) (m : Nat), l.length - m = d → m ≤ l.length → acc.length = l.length → acc.take m = l.take m →
  Ev (fun k => dw k l acc (m : Int)) l := by
 induction d with
 | zero =>
  intro acc m h0 h1 h2 h3
  refine Ev.step (fun k => by rw [dw]) ?_
  refine Ev.neg (by omega) ?_
  have : acc = l := by rw [← List.take_length (l := acc), ← List.take_length (l := l), h2, show l.length = m by omega]; exact h3
  rw [this]
  exact Ev.now _
 | succ d ih =>
  intro acc m h0 h1 h2 h3
  have hm : m < l.length := by omega
  refine Ev.step (fun k => by rw [dw]) ?_
  refine Ev.pos (by omega) (Ev.pos (by omega) (Ev.bindo rfl (Ev.pos (by omega) ?_)))
  rw [aY hm (by omega), dd l m hm, Int.toNat_natCast]
  exact ih _ (m + 1) (by omega) (by omega) (by rw [List.length_set]; exact h2) (ky l acc m hm h2 h3)
theorem np (l : List S69) (hl : l.length ≤ 1048576) : Ev (fun k => gn k l) l := by
 unfold gn
 refine Ev.pos (by omega) (Ev.pos (by omega) ?_)
 exact nm l hl l.length _ 0 (by omega) (Nat.zero_le _) (by simp) (by simp)
theorem nq (a : Int) (l : List S69) (hl : l.length ≤ 1048576) : Ev (fun k => gp k a l) (a, l) := by
 unfold gp
 exact Ev.bind (np l hl) (Ev.now _)
theorem nl (l : List Int) (hl : l.length ≤ 1048576) (d : Nat) : ∀ (acc : List Int) (m : Nat), l.length - m = d → m ≤ l.length → acc.length = l.length → acc.take m = l.take m →
  Ev (fun k => dv k l acc (m : Int)) l := by
 induction d with
 | zero =>
  intro acc m h0 h1 h2 h3
  refine Ev.step (fun k => by rw [dv]) ?_
  refine Ev.neg (by omega) ?_
  have : acc = l := by rw [← List.take_length (l := acc), ← List.take_length (l := l), h2, show l.length = m by omega]; exact h3
  rw [this]
  exact Ev.now _
 | succ d ih =>
  intro acc m h0 h1 h2 h3
  have hm : m < l.length := by omega
  refine Ev.step (fun k => by rw [dv]) ?_
  refine Ev.pos (by omega) (Ev.pos (by omega) (Ev.pos (by omega) ?_))
  rw [aY hm (by omega), bl l m hm, Int.toNat_natCast]
  exact ih _ (m + 1) (by omega) (by omega) (by rw [List.length_set]; exact h2) (ky l acc m hm h2 h3)
theorem kx (l : List Int) (hl : l.length ≤ 1048576) : Ev (fun k => fu k l) l := by
 unfold fu
 refine Ev.pos (by omega) (Ev.pos (by omega) ?_)
 exact nl l hl l.length _ 0 (by omega) (Nat.zero_le _) (by simp) (by simp)
theorem sp (l : List S69) (hl : l.length ≤ 1048576) (d : Nat) : ∀ (m : Nat), l.length - m = d → m ≤ l.length → Ev (fun k => ef k l l (m : Int)) true := by
 induction d with
 | zero =>
  intro m h0 h1
  refine Ev.step (fun k => by rw [ef]) ?_
  exact Ev.neg (by omega) (Ev.now _)
 | succ d ih =>
  intro m h0 h1
  have hm : m < l.length := by omega
  refine Ev.step (fun k => by rw [ef]) ?_
  refine Ev.pos (by omega) (Ev.pos (by omega) (Ev.pos (by omega) (Ev.bindo (a := true) (by simp [im]) (Ev.pos rfl ?_))))
  rw [aY hm (by omega)]
  exact ih (m + 1) (by omega) (by omega)
theorem sq (l : List S69) (hl : l.length ≤ 1048576) : Ev (fun k => gw k l l) true := by
 unfold gw
 exact Ev.pos rfl (sp l hl l.length 0 (by omega) (Nat.zero_le _))
theorem sr (a : Int) (l : List S69) (hl : l.length ≤ 1048576) : Ev (fun k => gx k a l a l) true := by
 unfold gx
 exact Ev.pos rfl (Ev.bind (sq l hl) (Ev.pos rfl (Ev.now _)))
theorem sk (l : List Int) (hl : l.length ≤ 1048576) (d : Nat) : ∀ (m : Nat), l.length - m = d → m ≤ l.length → Ev (fun k => ed k l l (m : Int)) true := by
 induction d with
 | zero =>
  intro m h0 h1
  refine Ev.step (fun k => by rw [ed]) ?_
  exact Ev.neg (by omega) (Ev.now _)
 | succ d ih =>
  intro m h0 h1
  have hm : m < l.length := by omega
  refine Ev.step (fun k => by rw [ed]) ?_
  refine Ev.pos (by omega) (Ev.pos (by omega) (Ev.pos (by omega) (Ev.pos rfl ?_)))
  rw [aY hm (by omega)]
  exact ih (m + 1) (by omega) (by omega)
theorem jP (l : List Int) (hl : l.length ≤ 1048576) : Ev (fun k => eO k l l) true := by
 unfold eO
 exact Ev.pos rfl (sk l hl l.length 0 (by omega) (Nat.zero_le _))
theorem gA (a lo hi : Int) : dq a lo hi = some (decide (lo ≤ a) && decide (a ≤ hi)) := by
 unfold dq
 by_cases h : lo ≤ a
 · rw [if_pos h, ag h, Bool.true_and]
 · rw [if_neg h, ar h, Bool.false_and]
theorem iE (a lo hi : Int) : dA a lo hi = some (decide (lo ≤ a) && decide (a ≤ hi)) := by
 unfold dA
 by_cases h : lo ≤ a
 · rw [if_pos h, ag h, Bool.true_and]
 · rw [if_neg h, ar h, Bool.false_and]
def bF (a b : S69) : Bool := decide (a.f0 < b.f0) || (decide (a.f0 = b.f0) && decide (a.f1 < b.f1))
theorem sw (a b : S69) : fg a.f0 a.f1 b.f0 b.f1 = some (bF a b) := by
 unfold fg bF
 by_cases h : a.f0 < b.f0
 · rw [if_pos h, ag h, Bool.true_or]
 · rw [if_neg h, ar h, Bool.false_or]
   by_cases h2 : a.f0 = b.f0
   · rw [if_pos h2, ag h2, Bool.true_and]
   · rw [if_neg h2, ar h2, Bool.false_and]
theorem sE (a b : S69) : (fM a b < 0) ↔ bF a b = true := by
 unfold fM bF cU
 simp only [Bool.or_eq_true, Bool.and_eq_true, decide_eq_true_eq]
 by_cases h : a.f0 < b.f0
 · simp [h]
 · by_cases h2 : b.f0 < a.f0
   · have : ¬ a.f0 = b.f0 := by omega
     simp [h, h2, this]
   · have h3 : a.f0 = b.f0 := by omega
     by_cases h4 : a.f1 < b.f1
     · simp [h3, h4]
     · by_cases h5 : b.f1 < a.f1 <;> simp [h3, h4, h5]
def bL (n : Int) : Option S69 → List S69 → Bool
 | _, [] => true
 | p, e :: t => (decide (0 ≤ e.f0) && decide (e.f0 < e.f1) && decide (e.f1 < n)) && ((match p with | none => true | some q => bF q e) && bL n (some e) t)
def b8 (l : List S69) : Nat → Option S69
 | 0 => none
 | m + 1 => l[m]?
theorem mf (l : List S69) (n : Int) (m : Nat) (hm : m < l.length) : bL n (b8 l m) (l.drop m) = ((decide (0 ≤ l[m].f0) && decide (l[m].f0 < l[m].f1) && decide (l[m].f1 < n)) && ((match b8 l m with | none => true | some q => bF q l[m]) && bL n (b8 l (m + 1)) (l.drop (m + 1)))) := by
 rw [List.drop_eq_getElem_cons hm, show b8 l (m + 1) = some l[m] from List.getElem?_eq_getElem hm]
 cases b8 l m <;> rfl
theorem qg (l : List S69) (n : Int) (hn : 0 ≤ n) (hn2 : n ≤ 4611686018427387904) (hl : l.length ≤ 1048576) (d : Nat) : ∀ (m : Nat), l.length - m = d → m ≤ l.length →
  Ev (fun k => dn k l n (m : Int)) (bL n (b8 l m) (l.drop m)) := by
 induction d with
 | zero =>
  intro m h0 h1
  refine Ev.step (fun k => by rw [dn]) ?_
  have e3 : l.drop m = [] := List.drop_eq_nil_of_le (by omega)
  rw [e3]
  refine Ev.neg (by omega) ?_
  cases b8 l m <;> exact Ev.now _
 | succ d ih =>
  intro m h0 h1
  have hm : m < l.length := by omega
  refine Ev.step (fun k => by rw [dn]) ?_
  rw [mf l n m hm]
  refine Ev.pos (by omega) (Ev.pos (by omega) ?_)
  rw [dd l m hm, b5 (m := n - 1) (by omega) (by omega)]
  have ihm := ih (m + 1) (by omega) (by omega)
  rw [← aY hm (by omega)] at ihm
  generalize bL n (b8 l (m + 1)) (l.drop (m + 1)) = R at ihm ⊢
  refine Ev.bindo (gA _ _ _) ?_
  by_cases c1 : 0 ≤ l[m].f0
  · by_cases c2 : l[m].f0 ≤ n - 1
    · refine Ev.pos (by simp [c1, c2]) (Ev.bindo (gA _ _ _) ?_)
      by_cases c3 : 0 ≤ l[m].f1 ∧ l[m].f1 ≤ n - 1
      · refine Ev.pos (by simp [c3.1, c3.2]) ?_
        by_cases c4 : l[m].f0 ≥ l[m].f1
        · have : (decide (0 ≤ l[m].f0) && decide (l[m].f0 < l[m].f1) && decide (l[m].f1 < n)) = false := by simp; omega
          rw [this, Bool.false_and]
          exact Ev.pos c4 (Ev.now _)
        · have : (decide (0 ≤ l[m].f0) && decide (l[m].f0 < l[m].f1) && decide (l[m].f1 < n)) = true := by simp; omega
          rw [this, Bool.true_and]
          refine Ev.neg c4 ?_
          cases m with
          | zero =>
           refine Ev.neg (by omega) ?_
           simp only [b8, Bool.true_and]
           exact ihm
          | succ q =>
           have hq : q < l.length := by omega
           have hw : wrap64 (((q + 1 : Nat) : Int) - 1) = (q : Int) := by unfold wrap64; omega
           refine Ev.pos (by omega) ?_
           rw [hw]
           refine Ev.pos (by omega) (Ev.pos (by omega) ?_)
           rw [dd l q hq]
           refine Ev.bindo (sw _ _) ?_
           simp only [b8, List.getElem?_eq_getElem hq]
           cases bF l[q] l[q + 1] with
           | true => rw [Bool.true_and]; exact Ev.pos rfl ihm
           | false => rw [Bool.false_and]; exact Ev.neg (by decide) (Ev.now _)
      · have : (decide (0 ≤ l[m].f0) && decide (l[m].f0 < l[m].f1) && decide (l[m].f1 < n)) = false := by simp; omega
        rw [this, Bool.false_and]
        exact Ev.neg (by simp; omega) (Ev.now _)
    · have : (decide (0 ≤ l[m].f0) && decide (l[m].f0 < l[m].f1) && decide (l[m].f1 < n)) = false := by simp; omega
      rw [this, Bool.false_and]
      exact Ev.neg (by simp; omega) (Ev.now _)
  · have : (decide (0 ≤ l[m].f0) && decide (l[m].f0 < l[m].f1) && decide (l[m].f1 < n)) = false := by simp; omega
    rw [this, Bool.false_and]
    exact Ev.neg (by simp; omega) (Ev.now _)
theorem qq (l : List S69) (n : Int) (hl : l.length ≤ 1048576) (d : Nat) : ∀ (m : Nat), l.length - m = d → m ≤ l.length →
    Ev (fun k => dz k l n l (l.length : Int) (m : Int)) (bL n (b8 l m) (l.drop m)) := by
  induction d with
  | zero =>
    intro m h0 h1
    refine Ev.step (fun k => by rw [dz]) ?_
    have e3 : l.drop m = [] := List.drop_eq_nil_of_le (by omega)
    rw [e3]
    refine Ev.neg (by omega) ?_
    cases b8 l m <;> exact Ev.now _
  | succ d ih =>
    intro m h0 h1
    have hm : m < l.length := by omega
    refine Ev.step (fun k => by rw [dz]) ?_
    rw [mf l n m hm]
    refine Ev.pos (by omega) (Ev.pos (by omega) (Ev.pos (by omega) ?_))
    rw [dd l m hm]
    have ihm := ih (m + 1) (by omega) (by omega)
    rw [← aY hm (by omega)] at ihm
    generalize bL n (b8 l (m + 1)) (l.drop (m + 1)) = R at ihm ⊢
    by_cases c1 : l[m].f0 < 0
    · have : (decide (0 ≤ l[m].f0) && decide (l[m].f0 < l[m].f1) && decide (l[m].f1 < n)) = false := by simp; omega
      rw [this, Bool.false_and]
      exact Ev.pos c1 (Ev.now _)
    · refine Ev.neg c1 ?_
      by_cases c2 : l[m].f0 ≥ l[m].f1
      · have : (decide (0 ≤ l[m].f0) && decide (l[m].f0 < l[m].f1) && decide (l[m].f1 < n)) = false := by simp; omega
        rw [this, Bool.false_and]
        exact Ev.pos c2 (Ev.now _)
      · refine Ev.neg c2 ?_
        by_cases c3 : l[m].f1 ≥ n
        · have : (decide (0 ≤ l[m].f0) && decide (l[m].f0 < l[m].f1) && decide (l[m].f1 < n)) = false := by simp; omega
          rw [this, Bool.false_and]
          exact Ev.pos c3 (Ev.now _)
        · have : (decide (0 ≤ l[m].f0) && decide (l[m].f0 < l[m].f1) && decide (l[m].f1 < n)) = true := by simp; omega
          rw [this, Bool.true_and]
          refine Ev.neg c3 ?_
          cases m with
          | zero =>
            refine Ev.neg (by omega) ?_
            simp only [b8, Bool.true_and]
            exact ihm
          | succ q =>
            have hq : q < l.length := by omega
            have hw : wrap64 (((q + 1 : Nat) : Int) - 1) = (q : Int) := by unfold wrap64; omega
            refine Ev.pos (by omega) ?_
            rw [hw]
            refine Ev.pos (by omega) (Ev.pos (by omega) ?_)
            rw [dd l q hq]
            refine Ev.bind (a := fM l[q] l[q + 1]) ⟨3, fun k hk => sC _ _ k hk⟩ ?_
            simp only [b8, List.getElem?_eq_getElem hq]
            have hb := sE l[q] l[q + 1]
            cases hbb : bF l[q] l[q + 1] with
            | true => rw [Bool.true_and]; exact Ev.neg (by have := hb.2 hbb; omega) ihm
            | false => rw [Bool.false_and]; exact Ev.pos (by rw [hbb] at hb; have : ¬ fM l[q] l[q+1] < 0 := fun h => by have := hb.1 h; cases this
                                                             omega) (Ev.now _)
theorem qh (l : List S69) (n : Int) (hn : 0 ≤ n) (hn2 : n ≤ 4611686018427387904) (hl : l.length ≤ 1048576) : Ev (fun k => g7 k l n) (bL n none l) :=
 qg l n hn hn2 hl l.length 0 (by omega) (Nat.zero_le _)
theorem qt (l : List S69) (n : Int) (hl : l.length ≤ 1048576) : Ev (fun k => iw k l n) (bL n none l) :=
 qq l n hl l.length 0 (by omega) (Nat.zero_le _)
def bQ (a : Int) (l : List S69) : Bool := (decide (0 ≤ a) && decide (a ≤ 8)) && bL a none l
theorem lV (a : Int) (l : List S69) (hl : l.length ≤ 1048576) : Ev (fun k => f7 k a l) (bQ a l) := by
 unfold f7 bQ
 refine Ev.bindo (gA _ _ _) ?_
 by_cases h : (decide (0 ≤ a) && decide (a ≤ 8)) = true
 · rw [h, Bool.true_and]
   simp at h
   exact Ev.pos rfl (Ev.bind (qh l a h.1 (by omega) hl) (Ev.now _))
 · have h2 : (decide (0 ≤ a) && decide (a ≤ 8)) = false := by simpa using h
   rw [h2, Bool.false_and]
   exact Ev.neg (by decide) (Ev.now _)
theorem iy (a : Int) (l : List S69) (hl : l.length ≤ 1048576) : Ev (fun k => fI k a l) (bQ a l) := by
 unfold fI bQ
 refine Ev.bindo (iE _ _ _) ?_
 by_cases h : (decide (0 ≤ a) && decide (a ≤ 8)) = true
 · rw [h, Bool.true_and]
   exact Ev.pos rfl (Ev.bind (qt l a hl) (Ev.now _))
 · have h2 : (decide (0 ≤ a) && decide (a ≤ 8)) = false := by simpa using h
   rw [h2, Bool.false_and]
   exact Ev.neg (by decide) (Ev.now _)
theorem bV (l : List (List Int)) (m : Nat) (h : m < l.length) : af l (m : Int) = l[m] := by simp [af, List.getD_eq_getElem?_getD, List.getElem?_eq_getElem h]
def gj (l : List (List Int)) (e : List S69) : Prop := l.length ≤ 1048576 ∧ (∀ s ∈ l, s.length ≤ 1048576) ∧ e.length ≤ 1048576
theorem sl (l : List (List Int)) (hl : l.length ≤ 1048576) (hs : ∀ s ∈ l, s.length ≤ 1048576) (d : Nat) : ∀ (m : Nat), l.length - m = d → m ≤ l.length → Ev (fun k => eb k l l (m : Int)) true := by
 induction d with
 | zero =>
  intro m h0 h1
  refine Ev.step (fun k => by rw [eb]) ?_
  exact Ev.neg (by omega) (Ev.now _)
 | succ d ih =>
  intro m h0 h1
  have hm : m < l.length := by omega
  refine Ev.step (fun k => by rw [eb]) ?_
  refine Ev.pos (by omega) (Ev.pos (by omega) (Ev.pos (by omega) ?_))
  rw [bV l m hm]
  refine Ev.bind (jP l[m] (hs _ (List.getElem_mem hm))) (Ev.pos rfl ?_)
  rw [aY hm (by omega)]
  exact ih (m + 1) (by omega) (by omega)
theorem sn (l : List (List Int)) (hl : l.length ≤ 1048576) (hs : ∀ s ∈ l, s.length ≤ 1048576) : Ev (fun k => gv k l l) true := by
 unfold gv
 exact Ev.pos rfl (sl l hl hs l.length 0 (by omega) (Nat.zero_le _))
def aE : List Int → List Int → Bool
 | [], [] => false
 | [], _ :: _ => true
 | _ :: _, [] => false
 | a :: x, b :: y => if a = b then aE x y else decide (a < b)
theorem qi (x y : List Int) (hx : x.length ≤ 1048576) (hy : y.length ≤ 1048576) (d : Nat) : ∀ (m : Nat), x.length - m = d → m ≤ x.length → m ≤ y.length →
  Ev (fun k => dY k x y (m : Int)) (aE (x.drop m) (y.drop m)) := by
 induction d with
 | zero =>
  intro m h0 h1 h2
  refine Ev.step (fun k => by rw [dY]) (Ev.neg (by omega) (Ev.step (fun k => by rw [eE]) (Ev.neg (by decide) ?_)))
  rw [show x.drop m = [] from List.drop_eq_nil_of_le (by omega)]
  by_cases h : m < y.length
  · rw [List.drop_eq_getElem_cons h, show decide ((x.length : Int) < (y.length : Int)) = true from ag (by omega)]
    exact Ev.now _
  · rw [List.drop_eq_nil_of_le (by omega), show decide ((x.length : Int) < (y.length : Int)) = false from ar (by omega)]
    exact Ev.now _
 | succ d ih =>
  intro m h0 h1 h2
  have hm : m < x.length := by omega
  refine Ev.step (fun k => by rw [dY]) (Ev.pos (by omega) (Ev.step (fun k => by rw [eE]) ?_))
  rw [List.drop_eq_getElem_cons hm]
  by_cases h : m < y.length
  · refine Ev.pos (ag (by omega)) (Ev.pos (by omega) (Ev.pos (by omega) (Ev.pos (by omega) ?_)))
    rw [bl x m hm, bl y m h, List.drop_eq_getElem_cons h, aE]
    by_cases c : x[m] = y[m]
    · rw [if_pos c, aY hm (by omega)]
      exact Ev.pos c (ih (m + 1) (by omega) (by omega) (by omega))
    · rw [if_neg c]
      exact Ev.neg c (Ev.now _)
  · refine Ev.neg (by rw [ar (by omega)]; decide) ?_
    rw [show y.drop m = [] from List.drop_eq_nil_of_le (by omega), show decide ((x.length : Int) < (y.length : Int)) = false from ar (by omega)]
    exact Ev.now _
theorem jx (x y : List Int) (hx : x.length ≤ 1048576) (hy : y.length ≤ 1048576) : Ev (fun k => f8 k x y) (aE x y) :=
 qi x y hx hy x.length 0 (by omega) (Nat.zero_le _) (Nat.zero_le _)
theorem sF (x : List Int) : ∀ y, (bH x y ≥ 0) ↔ aE x y = false := by
 induction x with
 | nil => intro y; cases y <;> simp [bH, aE]
 | cons a x ih =>
  intro y
  cases y with
  | nil => simp [bH, aE]
  | cons b y =>
   simp only [bH, aE]
   unfold cU
   by_cases h : a < b
   · rw [if_pos h, if_neg (by decide), if_neg (by omega), ag h]
     simp
   · rw [if_neg h]
     by_cases h2 : a > b
     · rw [if_pos h2, if_neg (by decide), if_neg (by omega), ar h]
       simp
     · rw [if_neg h2, if_pos rfl, if_pos (by omega)]
       exact ih y
section
variable (l : List (List Int)) (e : List S69) (h : gj l e)
include h
end
theorem sQ (c : Nat → Int) (n p : Nat) (h1 : ∀ q, q < p → c q < 0) (h2 : ∀ q, p ≤ q → q < n → ¬ c q < 0) (k : Nat) : ∀ (i j : Nat), i ≤ p → p ≤ j → j ≤ n → j - i < k → ch c k i j = p := by
 induction k with
 | zero => intro i j _ _ _ h; omega
 | succ k ih =>
  intro i j hi hj hn hk
  rw [ch]
  by_cases h : i < j
  · rw [if_pos h]
    by_cases hc : c ((i + j) / 2) < 0
    · rw [if_pos hc]
      have : (i + j) / 2 < p := by
       apply Nat.lt_of_not_le
       intro hp
       exact h2 _ hp (by omega) hc
      exact ih _ _ (by omega) hj hn (by omega)
    · rw [if_neg hc]
      have : p ≤ (i + j) / 2 := by
       apply Nat.le_of_not_lt
       intro hp
       exact hc (h1 _ hp)
      exact ih _ _ hi this (by omega) (by omega)
  · rw [if_neg h]
    omega
theorem gR (x : List Int) : ∀ y z, aE x y = true → aE y z = true → aE x z = true := by
 induction x with
 | nil =>
  intro y z h1 h2
  cases y with
  | nil => simp [aE] at h1
  | cons b y => cases z with
   | nil => simp [aE] at h2
   | cons c z => rfl
 | cons a x ih =>
  intro y z h1 h2
  cases y with
  | nil => simp [aE] at h1
  | cons b y => cases z with
   | nil => simp [aE] at h2
   | cons c z =>
    simp only [aE] at h1 h2 ⊢
    by_cases hab : a = b
    · by_cases hbc : b = c
      · rw [if_pos hab] at h1
        rw [if_pos hbc] at h2
        rw [if_pos (hab.trans hbc)]
        exact ih y z h1 h2
      · rw [if_neg hbc, decide_eq_true_eq] at h2
        rw [if_neg (by omega), decide_eq_true_eq]
        omega
    · rw [if_neg hab, decide_eq_true_eq] at h1
      by_cases hbc : b = c
      · rw [if_neg (by omega), decide_eq_true_eq]
        omega
      · rw [if_neg hbc, decide_eq_true_eq] at h2
        rw [if_neg (by omega), decide_eq_true_eq]
        omega
theorem gT (x : List Int) : aE x x = false := by
 induction x with
 | nil => rfl
 | cons a x ih => rw [aE, if_pos rfl]; exact ih
theorem jW {x y : List Int} (h : aE x y = true) : aE y x = false := by
 cases h2 : aE y x with
 | false => rfl
 | true =>
  have := gR x y x h h2
  rw [gT] at this
  exact absurd this (by decide)
theorem jS (x y : List Int) : bH x y < 0 ↔ aE x y = true := by
 have := sF x y
 cases h : aE x y with
 | true => rw [h] at this; simp only [Bool.true_eq_false, iff_false, ge_iff_le] at this; simp only [iff_true]; omega
 | false => rw [h] at this; simp only [iff_true, ge_iff_le] at this; simp only [Bool.false_eq_true, iff_false]; omega
theorem mB (x : List Int) : ∀ y, bH x y = 0 ↔ x = y := by
 induction x with
 | nil => intro y; cases y <;> simp [bH]
 | cons a x ih =>
  intro y
  cases y with
  | nil => simp [bH]
  | cons b y =>
   simp only [bH]
   unfold cU
   by_cases h : a < b
   · rw [if_pos h, if_neg (by decide)]
     simp; omega
   · rw [if_neg h]
     by_cases h2 : a > b
     · rw [if_pos h2, if_neg (by decide)]
       simp; omega
     · rw [if_neg h2, if_pos rfl, ih]
       have : a = b := by omega
       simp [this]
def LexS (l : List (List Int)) : Prop := l.Pairwise (fun x y => aE x y = true)
theorem iF (x : List Int) : ∀ y, aE x y = false → aE y x = false → x = y := by
 induction x with
 | nil =>
  intro y h1 h2
  cases y with
  | nil => rfl
  | cons b y => simp [aE] at h1
 | cons a x ih =>
  intro y h1 h2
  cases y with
  | nil => simp [aE] at h2
  | cons b y =>
   simp only [aE] at h1 h2
   by_cases c : a = b
   · subst c
     rw [if_pos rfl] at h1 h2
     rw [ih y h1 h2]
   · rw [if_neg c, decide_eq_false_iff_not] at h1
     rw [if_neg (fun h => c h.symm), decide_eq_false_iff_not] at h2
     omega
theorem nw {α : Type} {lt : α → α → Bool} (hi : ∀ x, lt x x = false) (ha : ∀ x y, lt x y = true → lt y x = false) (l1 : List α) : ∀ l2, l1.Pairwise (fun x y => lt x y = true) → l2.Pairwise (fun x y => lt x y = true) → (∀ s, s ∈ l1 ↔ s ∈ l2) → l1 = l2 := by
 induction l1 with
 | nil =>
  intro l2 _ _ h
  cases l2 with
  | nil => rfl
  | cons b u => exact absurd ((h b).2 (List.mem_cons_self ..)) (by simp)
 | cons a t ih =>
  intro l2 h1 h2 h
  cases l2 with
  | nil => exact absurd ((h a).1 (List.mem_cons_self ..)) (by simp)
  | cons b u =>
   have p1 := List.pairwise_cons.1 h1
   have p2 := List.pairwise_cons.1 h2
   have hab : a = b := by
     rcases List.mem_cons.1 ((h a).1 (List.mem_cons_self ..)) with e | e
     · exact e
     · rcases List.mem_cons.1 ((h b).2 (List.mem_cons_self ..)) with e2 | e2
       · exact e2.symm
       · have := ha _ _ (p1.1 b e2)
         rw [p2.1 a e] at this
         exact absurd this (by decide)
   subst hab
   rw [ih u p1.2 p2.2 fun s => ?_]
   constructor
   · intro hs
     rcases List.mem_cons.1 ((h s).1 (List.mem_cons_of_mem _ hs)) with e | e
     · subst e
       have := p1.1 s hs
       rw [hi] at this
       exact absurd this (by decide)
     · exact e
   · intro hs
     rcases List.mem_cons.1 ((h s).2 (List.mem_cons_of_mem _ hs)) with e | e
     · subst e
       have := p2.1 s hs
       rw [hi] at this
       exact absurd this (by decide)
     · exact e
theorem lI (l1 l2 : List (List Int)) (h1 : LexS l1) (h2 : LexS l2) (h : ∀ s, s ∈ l1 ↔ s ∈ l2) : l1 = l2 :=
 nw gT (fun _ _ h => jW h) l1 l2 h1 h2 h
def bJ (ls : List (List Int)) : List (List Int) := ls.mergeSort (fun x y => !aE y x)
theorem kP (ls : List (List Int)) : (bJ ls).length = ls.length := List.length_mergeSort ls
theorem hG (ls : List (List Int)) (s : List Int) : s ∈ bJ ls ↔ s ∈ ls := List.mem_mergeSort
theorem mF {x y z : List Int} (h1 : aE x y = false) (h2 : aE y z = false) : aE x z = false := by
 cases h : aE x z with
 | false => rfl
 | true =>
  cases h3 : aE y x with
  | true =>
   have := gR y x z h3 h
   rw [h2] at this
   exact absurd this (by decide)
  | false =>
   have := iF x y h1 h3
   subst this
   rw [h2] at h
   exact absurd h (by decide)
theorem i5 (ls : List (List Int)) (h : ls.Nodup) : LexS (bJ ls) := by
 have h1 : (bJ ls).Pairwise (fun x y => (!aE y x) = true) := List.pairwise_mergeSort
  (fun x y z h1 h2 => by
   rw [Bool.not_eq_true'] at *
   exact mF h2 h1)
  (fun x y => by
   cases c : aE y x with
   | false => rfl
   | true => rw [jW c]; rfl) ls
 have h2 : (bJ ls).Nodup := (List.mergeSort_perm ls _).nodup_iff.2 h
 unfold LexS
 refine List.Pairwise.imp ?_ (List.pairwise_and_iff.2 ⟨h1, h2⟩)
 rintro x y ⟨h3, h4⟩
 rw [Bool.not_eq_true'] at h3
 cases c : aE x y with
 | true => rfl
 | false => exact absurd (iF x y c h3) h4
theorem LexS.nodup {l : List (List Int)} (h : LexS l) : l.Nodup := h.imp fun {x y} hxy e => by
 subst e
 rw [gT] at hxy
 exact absurd hxy (by decide)
end Go.Proofs.YtadjbmcfgjmhkaaGreat.P
