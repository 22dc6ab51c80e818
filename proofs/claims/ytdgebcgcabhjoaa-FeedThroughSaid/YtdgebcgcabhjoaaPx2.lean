-- Written by a program for this claim. Not trusted: Lean checks it.
import Derived.Test.YtdgebcgcabhjoaaPx0
import Derived.Test.YtdgebcgcabhjoaaPx1
import Derived.Test.YtdgebcgcabhjoaaFt
import Derived.Test.YtdgebcgcabhjoaaFu
namespace Go.Proofs.Ytdgebcgcabhjoaa.P
open Go.RowKit Go.Proofs.YtdgebcgcabhjoaaW.PrintWords Go.Proofs.YtdgebcgcabhjoaaW.PrintLast Go.Proofs.YtdgebcgcabhjoaaW.PrintMore
attribute [local go_sem] max2_int min2_int max_two min_two max_three min_three max_four min_four   -- for this text's walks alone
set_option linter.unusedVariables false
set_option linter.unusedSimpArgs false

/-! ### bolterlaw34_FeedThrough: function 6 -/
mutual
def bolterlaw34_FeedThrough.j0 : Nat → Int → List Int → List Int → List Int → Int → Int → Bool → Option (Bool)
  | 0, _, _, _, _, _, _, _ => none
  | k + 1, x0, x1, x2, x7, x8, x9, x10 => bolterlaw34_FeedThrough.l0 k x0 x1 x2 x7 x8 x9 x10 0
def bolterlaw34_FeedThrough.l0 : Nat → Int → List Int → List Int → List Int → Int → Int → Bool → Int → Option (Bool)
  | 0, _, _, _, _, _, _, _, _ => none
  | k + 1, x0, x1, x2, x7, x8, x9, x10, x11 => if x11 < (x1.length : Int) then (if x10 = true then (bolterlaw34_FeedThrough.l0 k x0 x1 x2 x7 x8 x9 true (wrap64 (x11 + 1))) else (if 0 ≤ x11 then (bolterlaw34_FeedThrough.l0 k x0 x1 x2 x7 x8 x9 (decide ((rd x1 x11) > 4096)) (wrap64 (x11 + 1))) else (none))) else (bolterlaw34_FeedThrough.l1 k x0 x1 x2 x7 x8 x9 x10 0)
def bolterlaw34_FeedThrough.l1 : Nat → Int → List Int → List Int → List Int → Int → Int → Bool → Int → Option (Bool)
  | 0, _, _, _, _, _, _, _, _ => none
  | k + 1, x0, x1, x2, x7, x8, x9, x10, x12 => if x12 < (x2.length : Int) then (if x10 = true then (bolterlaw34_FeedThrough.l1 k x0 x1 x2 x7 x8 x9 true (wrap64 (x12 + 1))) else (if 0 ≤ x12 then (bolterlaw34_FeedThrough.l1 k x0 x1 x2 x7 x8 x9 (decide ((rd x2 x12) > 4096)) (wrap64 (x12 + 1))) else (none))) else (if x0 < 1 then (bolterlaw34_FeedThrough.j3 k x0 x1 x2 x7 x8 x9 x10 true) else (bolterlaw34_FeedThrough.j3 k x0 x1 x2 x7 x8 x9 x10 (decide (x0 > 4096))))
def bolterlaw34_FeedThrough.j3 : Nat → Int → List Int → List Int → List Int → Int → Int → Bool → Bool → Option (Bool)
  | 0, _, _, _, _, _, _, _, _ => none
  | k + 1, x0, x1, x2, x7, x8, x9, x10, x64 => if x64 = true then (if x9 = 4 then (if (x7.length : Int) = 0 then (if x8 = 0 then ((bolterlaw34_alive.f).bind fun t110 => (some t110)) else (some false)) else (some false)) else (some false)) else (if x10 = true then (if x9 = 3 then (if (x7.length : Int) = 0 then (if x8 = 0 then ((bolterlaw34_alive.f).bind fun t111 => (some t111)) else (some false)) else (some false)) else (some false)) else (bolterlaw34_FeedThrough.l2 k x0 x1 x2 x7 x8 x9 ([] : List Int) ([] : List Int) 1 0 0))
def bolterlaw34_FeedThrough.l2 : Nat → Int → List Int → List Int → List Int → Int → Int → List Int → List Int → Int → Int → Int → Option (Bool)
  | 0, _, _, _, _, _, _, _, _, _, _, _ => none
  | k + 1, x0, x1, x2, x7, x8, x9, x13, x14, x15, x16, x17 => if x17 < (x1.length : Int) then (bolterlaw34_FeedThrough.j5 k x0 x1 x2 x7 x8 x9 x13 x14 x15 x16 x17 true) else (bolterlaw34_FeedThrough.j5 k x0 x1 x2 x7 x8 x9 x13 x14 x15 x16 x17 (decide (x17 < (x2.length : Int))))
def bolterlaw34_FeedThrough.j5 : Nat → Int → List Int → List Int → List Int → Int → Int → List Int → List Int → Int → Int → Int → Bool → Option (Bool)
  | 0, _, _, _, _, _, _, _, _, _, _, _, _ => none
  | k + 1, x0, x1, x2, x7, x8, x9, x13, x14, x15, x16, x17, x110 => if x110 = true then (bolterlaw34_FeedThrough.l3 k x0 x1 x2 x7 x8 x9 x13 x14 x15 x16 x17 0) else (if x9 = 0 then ((bolterplain_SameInts.f k x7 x14).bind fun t112 => (if t112 = true then (if x8 = x16 then ((bolterlaw34_alive.f).bind fun t113 => (some t113)) else (some false)) else (some false))) else (some false))
def bolterlaw34_FeedThrough.l3 : Nat → Int → List Int → List Int → List Int → Int → Int → List Int → List Int → Int → Int → Int → Int → Option (Bool)
  | 0, _, _, _, _, _, _, _, _, _, _, _, _ => none
  | k + 1, x0, x1, x2, x7, x8, x9, x13, x14, x15, x16, x17, x18 => if x17 < (x1.length : Int) then (if 0 ≤ x17 then (bolterlaw34_FeedThrough.j7 k x0 x1 x2 x7 x8 x9 x13 x14 x15 x16 x17 x18 (decide (x18 < (rd x1 x17)))) else (none)) else (bolterlaw34_FeedThrough.j7 k x0 x1 x2 x7 x8 x9 x13 x14 x15 x16 x17 x18 false)
def bolterlaw34_FeedThrough.j7 : Nat → Int → List Int → List Int → List Int → Int → Int → List Int → List Int → Int → Int → Int → Int → Bool → Option (Bool)
  | 0, _, _, _, _, _, _, _, _, _, _, _, _, _ => none
  | k + 1, x0, x1, x2, x7, x8, x9, x13, x14, x15, x16, x17, x18, x124 => if x124 = true then (if (x13.length : Int) < x0 then (if x13.length < 17592186044416 then (bolterlaw34_FeedThrough.l3 k x0 x1 x2 x7 x8 x9 (x13 ++ [x15]) x14 (wrap64 (x15 + 1)) x16 x17 (wrap64 (x18 + 1))) else (none)) else (bolterlaw34_FeedThrough.l3 k x0 x1 x2 x7 x8 x9 x13 x14 (wrap64 (x15 + 1)) (wrap64 (x16 + 1)) x17 (wrap64 (x18 + 1)))) else (bolterlaw34_FeedThrough.l4 k x0 x1 x2 x7 x8 x9 x13 x14 x15 x16 x17 0)
def bolterlaw34_FeedThrough.l4 : Nat → Int → List Int → List Int → List Int → Int → Int → List Int → List Int → Int → Int → Int → Int → Option (Bool)
  | 0, _, _, _, _, _, _, _, _, _, _, _, _ => none
  | k + 1, x0, x1, x2, x7, x8, x9, x13, x14, x15, x16, x17, x19 => if x17 < (x2.length : Int) then (if 0 ≤ x17 then (if x19 < (rd x2 x17) then (if (x13.length : Int) > 0 then (if 0 < (x13.length : Int) then (if x14.length < 17592186044416 then (if 1 ≤ (x13.length : Int) then (bolterlaw34_FeedThrough.l4 k x0 x1 x2 x7 x8 x9 (x13.drop (1 : Int).toNat) (x14 ++ [rd x13 0]) x15 x16 x17 (wrap64 (x19 + 1))) else (none)) else (none)) else (none)) else (bolterlaw34_FeedThrough.l2 k x0 x1 x2 x7 x8 x9 x13 x14 x15 x16 (wrap64 (x17 + 1)))) else (bolterlaw34_FeedThrough.l2 k x0 x1 x2 x7 x8 x9 x13 x14 x15 x16 (wrap64 (x17 + 1)))) else (none)) else (bolterlaw34_FeedThrough.l2 k x0 x1 x2 x7 x8 x9 x13 x14 x15 x16 (wrap64 (x17 + 1)))
end
def bolterlaw34_FeedThrough.f (k : Nat) (a0 : Int) (l1 : List Int) (l2 : List Int) : Option (Bool) := (feed_Through.f a0 l1 l2).bind fun bt103 => (if (l1.length : Int) > 256 then (bolterlaw34_FeedThrough.j0 k a0 l1 l2 bt103.1 bt103.2.1 bt103.2.2 true) else (bolterlaw34_FeedThrough.j0 k a0 l1 l2 bt103.1 bt103.2.1 bt103.2.2 (decide ((l2.length : Int) > 256))))
theorem bolterlaw34_FeedThrough.mono_l : ∀ k, (∀ y0 y1 y2 y3 y4 y5 y6, LeO (bolterlaw34_FeedThrough.j0 k y0 y1 y2 y3 y4 y5 y6) (bolterlaw34_FeedThrough.j0 (k + 1) y0 y1 y2 y3 y4 y5 y6)) ∧ (∀ y0 y1 y2 y3 y4 y5 y6 y7, LeO (bolterlaw34_FeedThrough.l0 k y0 y1 y2 y3 y4 y5 y6 y7) (bolterlaw34_FeedThrough.l0 (k + 1) y0 y1 y2 y3 y4 y5 y6 y7)) ∧ (∀ y0 y1 y2 y3 y4 y5 y6 y7, LeO (bolterlaw34_FeedThrough.l1 k y0 y1 y2 y3 y4 y5 y6 y7) (bolterlaw34_FeedThrough.l1 (k + 1) y0 y1 y2 y3 y4 y5 y6 y7)) ∧ (∀ y0 y1 y2 y3 y4 y5 y6 y7, LeO (bolterlaw34_FeedThrough.j3 k y0 y1 y2 y3 y4 y5 y6 y7) (bolterlaw34_FeedThrough.j3 (k + 1) y0 y1 y2 y3 y4 y5 y6 y7)) ∧ (∀ y0 y1 y2 y3 y4 y5 y6 y7 y8 y9 y10, LeO (bolterlaw34_FeedThrough.l2 k y0 y1 y2 y3 y4 y5 y6 y7 y8 y9 y10) (bolterlaw34_FeedThrough.l2 (k + 1) y0 y1 y2 y3 y4 y5 y6 y7 y8 y9 y10)) ∧ (∀ y0 y1 y2 y3 y4 y5 y6 y7 y8 y9 y10 y11, LeO (bolterlaw34_FeedThrough.j5 k y0 y1 y2 y3 y4 y5 y6 y7 y8 y9 y10 y11) (bolterlaw34_FeedThrough.j5 (k + 1) y0 y1 y2 y3 y4 y5 y6 y7 y8 y9 y10 y11)) ∧ (∀ y0 y1 y2 y3 y4 y5 y6 y7 y8 y9 y10 y11, LeO (bolterlaw34_FeedThrough.l3 k y0 y1 y2 y3 y4 y5 y6 y7 y8 y9 y10 y11) (bolterlaw34_FeedThrough.l3 (k + 1) y0 y1 y2 y3 y4 y5 y6 y7 y8 y9 y10 y11)) ∧ (∀ y0 y1 y2 y3 y4 y5 y6 y7 y8 y9 y10 y11 y12, LeO (bolterlaw34_FeedThrough.j7 k y0 y1 y2 y3 y4 y5 y6 y7 y8 y9 y10 y11 y12) (bolterlaw34_FeedThrough.j7 (k + 1) y0 y1 y2 y3 y4 y5 y6 y7 y8 y9 y10 y11 y12)) ∧ (∀ y0 y1 y2 y3 y4 y5 y6 y7 y8 y9 y10 y11, LeO (bolterlaw34_FeedThrough.l4 k y0 y1 y2 y3 y4 y5 y6 y7 y8 y9 y10 y11) (bolterlaw34_FeedThrough.l4 (k + 1) y0 y1 y2 y3 y4 y5 y6 y7 y8 y9 y10 y11))
  | 0 => ⟨fun _ _ _ _ _ _ _ r h => by simp [bolterlaw34_FeedThrough.j0] at h, fun _ _ _ _ _ _ _ _ r h => by simp [bolterlaw34_FeedThrough.l0] at h, fun _ _ _ _ _ _ _ _ r h => by simp [bolterlaw34_FeedThrough.l1] at h, fun _ _ _ _ _ _ _ _ r h => by simp [bolterlaw34_FeedThrough.j3] at h, fun _ _ _ _ _ _ _ _ _ _ _ r h => by simp [bolterlaw34_FeedThrough.l2] at h, fun _ _ _ _ _ _ _ _ _ _ _ _ r h => by simp [bolterlaw34_FeedThrough.j5] at h, fun _ _ _ _ _ _ _ _ _ _ _ _ r h => by simp [bolterlaw34_FeedThrough.l3] at h, fun _ _ _ _ _ _ _ _ _ _ _ _ _ r h => by simp [bolterlaw34_FeedThrough.j7] at h, fun _ _ _ _ _ _ _ _ _ _ _ _ r h => by simp [bolterlaw34_FeedThrough.l4] at h⟩
  | k + 1 => by
    obtain ⟨ih0, ih1, ih2, ih3, ih4, ih5, ih6, ih7, ih8⟩ := bolterlaw34_FeedThrough.mono_l k
    refine ⟨?_, ?_, ?_, ?_, ?_, ?_, ?_, ?_, ?_⟩
    · intro y0 y1 y2 y3 y4 y5 y6
      unfold bolterlaw34_FeedThrough.j0
      repeat' first
      | (with_reducible exact ih0 _ _ _ _ _ _ _)
      | (with_reducible exact ih1 _ _ _ _ _ _ _ _)
      | (with_reducible exact ih2 _ _ _ _ _ _ _ _)
      | (with_reducible exact ih3 _ _ _ _ _ _ _ _)
      | (with_reducible exact ih4 _ _ _ _ _ _ _ _ _ _ _)
      | (with_reducible exact ih5 _ _ _ _ _ _ _ _ _ _ _ _)
      | (with_reducible exact ih6 _ _ _ _ _ _ _ _ _ _ _ _)
      | (with_reducible exact ih7 _ _ _ _ _ _ _ _ _ _ _ _ _)
      | (with_reducible exact ih8 _ _ _ _ _ _ _ _ _ _ _ _)
      | (with_reducible exact bolterplain_SameInts.mono _ _ _)
      | (with_reducible exact LeO.refl _)
      | (with_reducible exact LeO.none _)
      | (with_reducible refine LeO.ite ?_ ?_)
      | (with_reducible refine LeO.bind ?_ (fun _ => ?_))
      | exact ih0 _ _ _ _ _ _ _
      | exact ih1 _ _ _ _ _ _ _ _
      | exact ih2 _ _ _ _ _ _ _ _
      | exact ih3 _ _ _ _ _ _ _ _
      | exact ih4 _ _ _ _ _ _ _ _ _ _ _
      | exact ih5 _ _ _ _ _ _ _ _ _ _ _ _
      | exact ih6 _ _ _ _ _ _ _ _ _ _ _ _
      | exact ih7 _ _ _ _ _ _ _ _ _ _ _ _ _
      | exact ih8 _ _ _ _ _ _ _ _ _ _ _ _
      | exact bolterplain_SameInts.mono _ _ _
      | exact LeO.none _
      | refine LeO.ite ?_ ?_
      | refine LeO.bind ?_ (fun _ => ?_)
    · intro y0 y1 y2 y3 y4 y5 y6 y7
      unfold bolterlaw34_FeedThrough.l0
      repeat' first
      | (with_reducible exact ih0 _ _ _ _ _ _ _)
      | (with_reducible exact ih1 _ _ _ _ _ _ _ _)
      | (with_reducible exact ih2 _ _ _ _ _ _ _ _)
      | (with_reducible exact ih3 _ _ _ _ _ _ _ _)
      | (with_reducible exact ih4 _ _ _ _ _ _ _ _ _ _ _)
      | (with_reducible exact ih5 _ _ _ _ _ _ _ _ _ _ _ _)
      | (with_reducible exact ih6 _ _ _ _ _ _ _ _ _ _ _ _)
      | (with_reducible exact ih7 _ _ _ _ _ _ _ _ _ _ _ _ _)
      | (with_reducible exact ih8 _ _ _ _ _ _ _ _ _ _ _ _)
      | (with_reducible exact bolterplain_SameInts.mono _ _ _)
      | (with_reducible exact LeO.refl _)
      | (with_reducible exact LeO.none _)
      | (with_reducible refine LeO.ite ?_ ?_)
      | (with_reducible refine LeO.bind ?_ (fun _ => ?_))
      | exact ih0 _ _ _ _ _ _ _
      | exact ih1 _ _ _ _ _ _ _ _
      | exact ih2 _ _ _ _ _ _ _ _
      | exact ih3 _ _ _ _ _ _ _ _
      | exact ih4 _ _ _ _ _ _ _ _ _ _ _
      | exact ih5 _ _ _ _ _ _ _ _ _ _ _ _
      | exact ih6 _ _ _ _ _ _ _ _ _ _ _ _
      | exact ih7 _ _ _ _ _ _ _ _ _ _ _ _ _
      | exact ih8 _ _ _ _ _ _ _ _ _ _ _ _
      | exact bolterplain_SameInts.mono _ _ _
      | exact LeO.none _
      | refine LeO.ite ?_ ?_
      | refine LeO.bind ?_ (fun _ => ?_)
    · intro y0 y1 y2 y3 y4 y5 y6 y7
      unfold bolterlaw34_FeedThrough.l1
      repeat' first
      | (with_reducible exact ih0 _ _ _ _ _ _ _)
      | (with_reducible exact ih1 _ _ _ _ _ _ _ _)
      | (with_reducible exact ih2 _ _ _ _ _ _ _ _)
      | (with_reducible exact ih3 _ _ _ _ _ _ _ _)
      | (with_reducible exact ih4 _ _ _ _ _ _ _ _ _ _ _)
      | (with_reducible exact ih5 _ _ _ _ _ _ _ _ _ _ _ _)
      | (with_reducible exact ih6 _ _ _ _ _ _ _ _ _ _ _ _)
      | (with_reducible exact ih7 _ _ _ _ _ _ _ _ _ _ _ _ _)
      | (with_reducible exact ih8 _ _ _ _ _ _ _ _ _ _ _ _)
      | (with_reducible exact bolterplain_SameInts.mono _ _ _)
      | (with_reducible exact LeO.refl _)
      | (with_reducible exact LeO.none _)
      | (with_reducible refine LeO.ite ?_ ?_)
      | (with_reducible refine LeO.bind ?_ (fun _ => ?_))
      | exact ih0 _ _ _ _ _ _ _
      | exact ih1 _ _ _ _ _ _ _ _
      | exact ih2 _ _ _ _ _ _ _ _
      | exact ih3 _ _ _ _ _ _ _ _
      | exact ih4 _ _ _ _ _ _ _ _ _ _ _
      | exact ih5 _ _ _ _ _ _ _ _ _ _ _ _
      | exact ih6 _ _ _ _ _ _ _ _ _ _ _ _
      | exact ih7 _ _ _ _ _ _ _ _ _ _ _ _ _
      | exact ih8 _ _ _ _ _ _ _ _ _ _ _ _
      | exact bolterplain_SameInts.mono _ _ _
      | exact LeO.none _
      | refine LeO.ite ?_ ?_
      | refine LeO.bind ?_ (fun _ => ?_)
    · intro y0 y1 y2 y3 y4 y5 y6 y7
      unfold bolterlaw34_FeedThrough.j3
      repeat' first
      | (with_reducible exact ih0 _ _ _ _ _ _ _)
      | (with_reducible exact ih1 _ _ _ _ _ _ _ _)
      | (with_reducible exact ih2 _ _ _ _ _ _ _ _)
      | (with_reducible exact ih3 _ _ _ _ _ _ _ _)
      | (with_reducible exact ih4 _ _ _ _ _ _ _ _ _ _ _)
      | (with_reducible exact ih5 _ _ _ _ _ _ _ _ _ _ _ _)
      | (with_reducible exact ih6 _ _ _ _ _ _ _ _ _ _ _ _)
      | (with_reducible exact ih7 _ _ _ _ _ _ _ _ _ _ _ _ _)
      | (with_reducible exact ih8 _ _ _ _ _ _ _ _ _ _ _ _)
      | (with_reducible exact bolterplain_SameInts.mono _ _ _)
      | (with_reducible exact LeO.refl _)
      | (with_reducible exact LeO.none _)
      | (with_reducible refine LeO.ite ?_ ?_)
      | (with_reducible refine LeO.bind ?_ (fun _ => ?_))
      | exact ih0 _ _ _ _ _ _ _
      | exact ih1 _ _ _ _ _ _ _ _
      | exact ih2 _ _ _ _ _ _ _ _
      | exact ih3 _ _ _ _ _ _ _ _
      | exact ih4 _ _ _ _ _ _ _ _ _ _ _
      | exact ih5 _ _ _ _ _ _ _ _ _ _ _ _
      | exact ih6 _ _ _ _ _ _ _ _ _ _ _ _
      | exact ih7 _ _ _ _ _ _ _ _ _ _ _ _ _
      | exact ih8 _ _ _ _ _ _ _ _ _ _ _ _
      | exact bolterplain_SameInts.mono _ _ _
      | exact LeO.none _
      | refine LeO.ite ?_ ?_
      | refine LeO.bind ?_ (fun _ => ?_)
    · intro y0 y1 y2 y3 y4 y5 y6 y7 y8 y9 y10
      unfold bolterlaw34_FeedThrough.l2
      repeat' first
      | (with_reducible exact ih0 _ _ _ _ _ _ _)
      | (with_reducible exact ih1 _ _ _ _ _ _ _ _)
      | (with_reducible exact ih2 _ _ _ _ _ _ _ _)
      | (with_reducible exact ih3 _ _ _ _ _ _ _ _)
      | (with_reducible exact ih4 _ _ _ _ _ _ _ _ _ _ _)
      | (with_reducible exact ih5 _ _ _ _ _ _ _ _ _ _ _ _)
      | (with_reducible exact ih6 _ _ _ _ _ _ _ _ _ _ _ _)
      | (with_reducible exact ih7 _ _ _ _ _ _ _ _ _ _ _ _ _)
      | (with_reducible exact ih8 _ _ _ _ _ _ _ _ _ _ _ _)
      | (with_reducible exact bolterplain_SameInts.mono _ _ _)
      | (with_reducible exact LeO.refl _)
      | (with_reducible exact LeO.none _)
      | (with_reducible refine LeO.ite ?_ ?_)
      | (with_reducible refine LeO.bind ?_ (fun _ => ?_))
      | exact ih0 _ _ _ _ _ _ _
      | exact ih1 _ _ _ _ _ _ _ _
      | exact ih2 _ _ _ _ _ _ _ _
      | exact ih3 _ _ _ _ _ _ _ _
      | exact ih4 _ _ _ _ _ _ _ _ _ _ _
      | exact ih5 _ _ _ _ _ _ _ _ _ _ _ _
      | exact ih6 _ _ _ _ _ _ _ _ _ _ _ _
      | exact ih7 _ _ _ _ _ _ _ _ _ _ _ _ _
      | exact ih8 _ _ _ _ _ _ _ _ _ _ _ _
      | exact bolterplain_SameInts.mono _ _ _
      | exact LeO.none _
      | refine LeO.ite ?_ ?_
      | refine LeO.bind ?_ (fun _ => ?_)
    · intro y0 y1 y2 y3 y4 y5 y6 y7 y8 y9 y10 y11
      unfold bolterlaw34_FeedThrough.j5
      repeat' first
      | (with_reducible exact ih0 _ _ _ _ _ _ _)
      | (with_reducible exact ih1 _ _ _ _ _ _ _ _)
      | (with_reducible exact ih2 _ _ _ _ _ _ _ _)
      | (with_reducible exact ih3 _ _ _ _ _ _ _ _)
      | (with_reducible exact ih4 _ _ _ _ _ _ _ _ _ _ _)
      | (with_reducible exact ih5 _ _ _ _ _ _ _ _ _ _ _ _)
      | (with_reducible exact ih6 _ _ _ _ _ _ _ _ _ _ _ _)
      | (with_reducible exact ih7 _ _ _ _ _ _ _ _ _ _ _ _ _)
      | (with_reducible exact ih8 _ _ _ _ _ _ _ _ _ _ _ _)
      | (with_reducible exact bolterplain_SameInts.mono _ _ _)
      | (with_reducible exact LeO.refl _)
      | (with_reducible exact LeO.none _)
      | (with_reducible refine LeO.ite ?_ ?_)
      | (with_reducible refine LeO.bind ?_ (fun _ => ?_))
      | exact ih0 _ _ _ _ _ _ _
      | exact ih1 _ _ _ _ _ _ _ _
      | exact ih2 _ _ _ _ _ _ _ _
      | exact ih3 _ _ _ _ _ _ _ _
      | exact ih4 _ _ _ _ _ _ _ _ _ _ _
      | exact ih5 _ _ _ _ _ _ _ _ _ _ _ _
      | exact ih6 _ _ _ _ _ _ _ _ _ _ _ _
      | exact ih7 _ _ _ _ _ _ _ _ _ _ _ _ _
      | exact ih8 _ _ _ _ _ _ _ _ _ _ _ _
      | exact bolterplain_SameInts.mono _ _ _
      | exact LeO.none _
      | refine LeO.ite ?_ ?_
      | refine LeO.bind ?_ (fun _ => ?_)
    · intro y0 y1 y2 y3 y4 y5 y6 y7 y8 y9 y10 y11
      unfold bolterlaw34_FeedThrough.l3
      repeat' first
      | (with_reducible exact ih0 _ _ _ _ _ _ _)
      | (with_reducible exact ih1 _ _ _ _ _ _ _ _)
      | (with_reducible exact ih2 _ _ _ _ _ _ _ _)
      | (with_reducible exact ih3 _ _ _ _ _ _ _ _)
      | (with_reducible exact ih4 _ _ _ _ _ _ _ _ _ _ _)
      | (with_reducible exact ih5 _ _ _ _ _ _ _ _ _ _ _ _)
      | (with_reducible exact ih6 _ _ _ _ _ _ _ _ _ _ _ _)
      | (with_reducible exact ih7 _ _ _ _ _ _ _ _ _ _ _ _ _)
      | (with_reducible exact ih8 _ _ _ _ _ _ _ _ _ _ _ _)
      | (with_reducible exact bolterplain_SameInts.mono _ _ _)
      | (with_reducible exact LeO.refl _)
      | (with_reducible exact LeO.none _)
      | (with_reducible refine LeO.ite ?_ ?_)
      | (with_reducible refine LeO.bind ?_ (fun _ => ?_))
      | exact ih0 _ _ _ _ _ _ _
      | exact ih1 _ _ _ _ _ _ _ _
      | exact ih2 _ _ _ _ _ _ _ _
      | exact ih3 _ _ _ _ _ _ _ _
      | exact ih4 _ _ _ _ _ _ _ _ _ _ _
      | exact ih5 _ _ _ _ _ _ _ _ _ _ _ _
      | exact ih6 _ _ _ _ _ _ _ _ _ _ _ _
      | exact ih7 _ _ _ _ _ _ _ _ _ _ _ _ _
      | exact ih8 _ _ _ _ _ _ _ _ _ _ _ _
      | exact bolterplain_SameInts.mono _ _ _
      | exact LeO.none _
      | refine LeO.ite ?_ ?_
      | refine LeO.bind ?_ (fun _ => ?_)
    · intro y0 y1 y2 y3 y4 y5 y6 y7 y8 y9 y10 y11 y12
      unfold bolterlaw34_FeedThrough.j7
      repeat' first
      | (with_reducible exact ih0 _ _ _ _ _ _ _)
      | (with_reducible exact ih1 _ _ _ _ _ _ _ _)
      | (with_reducible exact ih2 _ _ _ _ _ _ _ _)
      | (with_reducible exact ih3 _ _ _ _ _ _ _ _)
      | (with_reducible exact ih4 _ _ _ _ _ _ _ _ _ _ _)
      | (with_reducible exact ih5 _ _ _ _ _ _ _ _ _ _ _ _)
      | (with_reducible exact ih6 _ _ _ _ _ _ _ _ _ _ _ _)
      | (with_reducible exact ih7 _ _ _ _ _ _ _ _ _ _ _ _ _)
      | (with_reducible exact ih8 _ _ _ _ _ _ _ _ _ _ _ _)
      | (with_reducible exact bolterplain_SameInts.mono _ _ _)
      | (with_reducible exact LeO.refl _)
      | (with_reducible exact LeO.none _)
      | (with_reducible refine LeO.ite ?_ ?_)
      | (with_reducible refine LeO.bind ?_ (fun _ => ?_))
      | exact ih0 _ _ _ _ _ _ _
      | exact ih1 _ _ _ _ _ _ _ _
      | exact ih2 _ _ _ _ _ _ _ _
      | exact ih3 _ _ _ _ _ _ _ _
      | exact ih4 _ _ _ _ _ _ _ _ _ _ _
      | exact ih5 _ _ _ _ _ _ _ _ _ _ _ _
      | exact ih6 _ _ _ _ _ _ _ _ _ _ _ _
      | exact ih7 _ _ _ _ _ _ _ _ _ _ _ _ _
      | exact ih8 _ _ _ _ _ _ _ _ _ _ _ _
      | exact bolterplain_SameInts.mono _ _ _
      | exact LeO.none _
      | refine LeO.ite ?_ ?_
      | refine LeO.bind ?_ (fun _ => ?_)
    · intro y0 y1 y2 y3 y4 y5 y6 y7 y8 y9 y10 y11
      unfold bolterlaw34_FeedThrough.l4
      repeat' first
      | (with_reducible exact ih0 _ _ _ _ _ _ _)
      | (with_reducible exact ih1 _ _ _ _ _ _ _ _)
      | (with_reducible exact ih2 _ _ _ _ _ _ _ _)
      | (with_reducible exact ih3 _ _ _ _ _ _ _ _)
      | (with_reducible exact ih4 _ _ _ _ _ _ _ _ _ _ _)
      | (with_reducible exact ih5 _ _ _ _ _ _ _ _ _ _ _ _)
      | (with_reducible exact ih6 _ _ _ _ _ _ _ _ _ _ _ _)
      | (with_reducible exact ih7 _ _ _ _ _ _ _ _ _ _ _ _ _)
      | (with_reducible exact ih8 _ _ _ _ _ _ _ _ _ _ _ _)
      | (with_reducible exact bolterplain_SameInts.mono _ _ _)
      | (with_reducible exact LeO.refl _)
      | (with_reducible exact LeO.none _)
      | (with_reducible refine LeO.ite ?_ ?_)
      | (with_reducible refine LeO.bind ?_ (fun _ => ?_))
      | exact ih0 _ _ _ _ _ _ _
      | exact ih1 _ _ _ _ _ _ _ _
      | exact ih2 _ _ _ _ _ _ _ _
      | exact ih3 _ _ _ _ _ _ _ _
      | exact ih4 _ _ _ _ _ _ _ _ _ _ _
      | exact ih5 _ _ _ _ _ _ _ _ _ _ _ _
      | exact ih6 _ _ _ _ _ _ _ _ _ _ _ _
      | exact ih7 _ _ _ _ _ _ _ _ _ _ _ _ _
      | exact ih8 _ _ _ _ _ _ _ _ _ _ _ _
      | exact bolterplain_SameInts.mono _ _ _
      | exact LeO.none _
      | refine LeO.ite ?_ ?_
      | refine LeO.bind ?_ (fun _ => ?_)
theorem bolterlaw34_FeedThrough.mono : ∀ a0 a1 a2 k, LeO (bolterlaw34_FeedThrough.f k a0 a1 a2) (bolterlaw34_FeedThrough.f (k + 1) a0 a1 a2) := by
  intro a0 a1 a2 k
  obtain ⟨ih0, ih1, ih2, ih3, ih4, ih5, ih6, ih7, ih8⟩ := bolterlaw34_FeedThrough.mono_l k
  unfold bolterlaw34_FeedThrough.f
  repeat' first
      | (with_reducible exact ih0 _ _ _ _ _ _ _)
      | (with_reducible exact ih1 _ _ _ _ _ _ _ _)
      | (with_reducible exact ih2 _ _ _ _ _ _ _ _)
      | (with_reducible exact ih3 _ _ _ _ _ _ _ _)
      | (with_reducible exact ih4 _ _ _ _ _ _ _ _ _ _ _)
      | (with_reducible exact ih5 _ _ _ _ _ _ _ _ _ _ _ _)
      | (with_reducible exact ih6 _ _ _ _ _ _ _ _ _ _ _ _)
      | (with_reducible exact ih7 _ _ _ _ _ _ _ _ _ _ _ _ _)
      | (with_reducible exact ih8 _ _ _ _ _ _ _ _ _ _ _ _)
      | (with_reducible exact bolterplain_SameInts.mono _ _ _)
      | (with_reducible exact LeO.refl _)
      | (with_reducible exact LeO.none _)
      | (with_reducible refine LeO.ite ?_ ?_)
      | (with_reducible refine LeO.bind ?_ (fun _ => ?_))
      | exact ih0 _ _ _ _ _ _ _
      | exact ih1 _ _ _ _ _ _ _ _
      | exact ih2 _ _ _ _ _ _ _ _
      | exact ih3 _ _ _ _ _ _ _ _
      | exact ih4 _ _ _ _ _ _ _ _ _ _ _
      | exact ih5 _ _ _ _ _ _ _ _ _ _ _ _
      | exact ih6 _ _ _ _ _ _ _ _ _ _ _ _
      | exact ih7 _ _ _ _ _ _ _ _ _ _ _ _ _
      | exact ih8 _ _ _ _ _ _ _ _ _ _ _ _
      | exact bolterplain_SameInts.mono _ _ _
      | exact LeO.none _
      | refine LeO.ite ?_ ?_
      | refine LeO.bind ?_ (fun _ => ?_)
set_option maxHeartbeats 8000000 in
set_option maxRecDepth 100000 in
theorem bolterlaw34_FeedThrough.calls (k : Nat) (a0 : Int) (A1 : Option Addr) (c1 : Nat) (l1 : List Int) (A2 : Option Addr) (c2 : Nat) (l2 : List Int) (r : Bool) (w : World) (hr1 : Kd.C (Kd.int .i64) w A1 l1.length l1) (hc1 : l1.length ≤ c1) (hr2 : Kd.C (Kd.int .i64) w A2 l2.length l2) (hc2 : l2.length ≤ c2) (h : bolterlaw34_FeedThrough.f k a0 l1 l2 = some r) :
    Calls Try.prog 6 #[.int .i64 a0, .slice A1 l1.length c1, .slice A2 l2.length c2] w fun e w' => e = .returned (.bool r) ∧ Below w.heap.size w w' := by
  have HR1 := Aside0.mk hr1
  have HC1 := Aside0.mk hc1
  clear hr1 hc1
  have HR2 := Aside0.mk hr2
  have HC2 := Aside0.mk hc2
  clear hr2 hc2
  have HB := Aside0.mk (Below.refl w.heap.size w)
  have H : ((feed_Through.f a0 l1 l2).bind fun bt103 => (if (l1.length : Int) > 256 then (bolterlaw34_FeedThrough.j0 k a0 l1 l2 bt103.1 bt103.2.1 bt103.2.2 true) else (bolterlaw34_FeedThrough.j0 k a0 l1 l2 bt103.1 bt103.2.1 bt103.2.2 (decide ((l2.length : Int) > 256))))) = some r := h
  clear h
  replace H := Option.bind_eq_some_iff.mp H
  obtain ⟨⟨t103, t104, t105⟩, A40, H⟩ := H
  replace H : (if (l1.length : Int) > 256 then (bolterlaw34_FeedThrough.j0 k a0 l1 l2 t103 t104 t105 true) else (bolterlaw34_FeedThrough.j0 k a0 l1 l2 t103 t104 t105 (decide ((l2.length : Int) > 256)))) = some r := H
  have A4 := Aside0.mk A40
  clear A40
  have HC5 := Aside0.mk H
  clear H
  go_enter Try.func6, Try.ntmps6
  go_upto_region 2 with (first | ((with_reducible refine gate_callee (f := 18) rfl ?_); refine goesL_ (some 24) rfl rfl Try.func18 (by kernel_rfl) rfl #[.int .i64 a0, .slice A1 l1.length c1, .slice A2 l2.length c2] rfl (by (try simp only [List.map_toArray, List.map_cons, List.map_nil]); first | done | rfl | (simp only [List.length_drop, List.length_take]; rfl)) ?_; (with_reducible refine (feed_Through.calls a0 _ _ l1 _ _ l2 t103 t104 t105 _ ?side1 ?side2 ?side3 ?side4 A4.out).mono ?_); (case side1 => repeat (first | exact HR1.out | (with_reducible refine Kd.C_alloc ?_ _) | (with_reducible refine Kd.C_drewN ?_ _) | (with_reducible refine Kd.C_drew ?_))); (case side2 => exact HC1.out); (case side3 => repeat (first | exact HR2.out | (with_reducible refine Kd.C_alloc ?_ _) | (with_reducible refine Kd.C_drewN ?_ _) | (with_reducible refine Kd.C_drew ?_))); (case side4 => exact HC2.out); rintro e w6 ⟨v106, rfl, ho0, hb⟩; refine ⟨_, rfl, ?_⟩; have n0_ := Aside0.mk (Kd.R_lower ho0 (below_size (by repeat (first | (with_reducible first | exact HB.out | apply below_alloc | apply pw_below_drewN | apply below_drew1) | exact HB.out)))); have n1_ := Aside0.mk (below_step (by repeat (first | (with_reducible first | exact HB.out | apply below_alloc | apply pw_below_drewN | apply below_drew1) | exact HB.out)) hb); clear HB; have HO107 := n0_; have HB := n1_; clear n0_ n1_; (try clear hb); (try clear hb2); (try clear hk); (try clear hi); (try clear ho0)))
  (try simp only [Act.put, List.setIfInBounds_toArray, List.set_cons_zero, List.set_cons_succ])
  go_cut [10] (fun v10 wc => ∃ (kq : Nat) (x10_4 : Bool), v10 = .bool x10_4 ∧ Aside0 (bolterlaw34_FeedThrough.j0 kq a0 l1 l2 t103 t104 t105 x10_4 = some r) ∧ Aside0 (kq ≤ k) ∧ Aside0 (Kd.R (Kd.int .i64) 3 wc w.heap.size (fun _ => True) v106 t103) ∧ Aside0 (Below w.heap.size w wc))
  case first =>
    have H := HC5.out
    clear HC5
    by_cases c7 : (l1.length : Int) > 256
    · rw [if_pos c7] at H
      have c7b0 : decide (256 < (l1.length : Int)) = true := decide_eq_true c7
      have c7b1 : decide (256 < l1.length) = true := decide_eq_true (by omega)
      clear c7
      (first | rw [c7b0] | (simp only [i64_w, i32_w]; rw [c7b0]) | skip)
      have H' := Aside0.mk H
      clear H
      go_wp2
      go_meet
      case rel => exact ⟨_, (true), (by first | rfl | (simp; done) | (simp [*]; done)), H', ⟨by first | omega | exact Nat.le_refl _⟩, ⟨by (with_reducible repeat (first | apply Kd.R_alloc | apply Kd.R_drewN | apply Kd.R_drew)); exact HO107.out⟩, ⟨by repeat (first | (with_reducible first | exact HB.out | apply below_alloc | apply pw_below_drewN | apply below_drew1) | exact HB.out)⟩⟩
    · rw [if_neg c7] at H
      have c7b0 : decide (256 < (l1.length : Int)) = false := decide_eq_false c7
      have c7b1 : decide (256 < l1.length) = false := decide_eq_false (by omega)
      clear c7
      (first | rw [c7b0] | (simp only [i64_w, i32_w]; rw [c7b0]) | skip)
      have H' := Aside0.mk H
      clear H
      go_wp2
      go_meet
      case rel => exact ⟨_, (decide ((l2.length : Int) > 256)), (by first | rfl | (simp; done) | (simp [*]; done)), H', ⟨by first | omega | exact Nat.le_refl _⟩, ⟨by (with_reducible repeat (first | apply Kd.R_alloc | apply Kd.R_drewN | apply Kd.R_drew)); exact HO107.out⟩, ⟨by repeat (first | (with_reducible first | exact HB.out | apply below_alloc | apply pw_below_drewN | apply below_drew1) | exact HB.out)⟩⟩
  case rest =>
    clear HC5
    try clear c1
    try clear c2
    try clear p2
    try clear c6
    try clear c7
    try clear c7b0
    try clear c7b1
    obtain ⟨kq, x10_4, rfl, HA, HJ4, HO_7, HB⟩ := hcut
    cases kq with
    | zero => exact absurd HA.out (by simp [bolterlaw34_FeedThrough.j0])
    | succ kj4 =>
      have H := HA.out
      clear HA
      simp only [bolterlaw34_FeedThrough.j0] at H
      have H' := Aside0.mk H
      clear H
      go_wp2
      go_loopg [10, 11] kj4 (fun kq v10 v11 w' => ∃ (x10_2 : Bool) (x11_2 : Int), v10 = .bool x10_2 ∧ v11 = .int .i64 x11_2 ∧ Aside0 (bolterlaw34_FeedThrough.l0 kq a0 l1 l2 t103 t104 t105 x10_2 x11_2 = some r) ∧ Aside0 (kq ≤ kj4) ∧ Aside0 (Kd.R (Kd.int .i64) 3 w' w.heap.size (fun _ => True) v106 t103) ∧ Aside0 (Below w.heap.size w w'))
      case atStart => exact ⟨(x10_4), (0), (by first | rfl | (simp; done) | (simp [*]; done)), (by first | rfl | (simp; done) | (simp [*]; done)), H', ⟨Nat.le_refl _⟩, ⟨by (with_reducible repeat (first | apply Kd.R_alloc | apply Kd.R_drewN | apply Kd.R_drew)); exact HO_7.out⟩, ⟨by repeat (first | (with_reducible first | exact HB.out | apply below_alloc | apply pw_below_drewN | apply below_drew1) | exact HB.out)⟩⟩
      case round =>
        clear H'
        try clear c1
        try clear c2
        try clear p2
        try clear c6
        try clear c7
        try clear c7b0
        try clear c7b1
        try clear p2
        obtain ⟨x10_2, x11_2, rfl, rfl, HA, HK2, HO_7, HB⟩ := hrel
        cases gk with
        | zero => exact absurd HA.out (by simp [bolterlaw34_FeedThrough.l0])
        | succ k2 =>
          have H := HA.out
          clear HA
          simp only [bolterlaw34_FeedThrough.l0] at H
          by_cases c8 : x11_2 < (l1.length : Int)
          · rw [if_pos c8] at H
            have c8b0 : decide (x11_2 < (l1.length : Int)) = true := decide_eq_true c8
            clear c8
            by_cases c9 : x10_2 = true
            · subst c9
              have H1 : (bolterlaw34_FeedThrough.l0 k2 a0 l1 l2 t103 t104 t105 true (wrap64 (x11_2 + 1))) = some r := by rw [if_pos rfl] at H; exact H
              clear H
              have H := H1
              clear H1
              have H' := Aside0.mk H
              clear H
              go_wp2
              go_roundg k2
              case measure => have := HJ4.out; have := HK2.out; omega
              case rel => exact ⟨(true), (wrap64 (x11_2 + 1)), (by first | rfl | (simp; done) | (simp [*]; done)), (by first | rfl | (simp; done) | (simp [*]; done)), H', ⟨by have := HJ4.out; have := HK2.out; omega⟩, ⟨by (with_reducible repeat (first | apply Kd.R_alloc | apply Kd.R_drewN | apply Kd.R_drew)); exact HO_7.out⟩, ⟨by repeat (first | (with_reducible first | exact HB.out | apply below_alloc | apply pw_below_drewN | apply below_drew1) | exact HB.out)⟩⟩
            · replace c9 := Bool.eq_false_iff.mpr c9
              subst c9
              have H1 : (if 0 ≤ x11_2 then (bolterlaw34_FeedThrough.l0 k2 a0 l1 l2 t103 t104 t105 (decide ((rd l1 x11_2) > 4096)) (wrap64 (x11_2 + 1))) else (none)) = some r := by rw [if_neg (show ¬ (false = true) by decide)] at H; exact H
              clear H
              have H := H1
              clear H1
              by_cases c10 : 0 ≤ x11_2
              · rw [if_pos c10] at H
                have c10b0 : decide (0 ≤ x11_2) = true := decide_eq_true c10
                clear c10
                have H' := Aside0.mk H
                clear H
                have p108 : 0 ≤ (x11_2 : Int) := of_decide_eq_true (by first | (with_reducible assumption) | assumption)
                have q108 : x11_2 < (l1.length : Int) := of_decide_eq_true (by first | (with_reducible assumption) | assumption)
                obtain ⟨ad108, e108, hx108_0⟩ := Kd.at_int HR1.out x11_2 p108 q108
                cases e108
                replace hx108_0 := (HB.out.cell (World.block_lt_of_cell? w _ hx108_0)).trans hx108_0
                replace p108 := eq_true p108
                replace q108 := eq_true q108
                go_wp2
                go_roundg k2
                case measure => have := HJ4.out; have := HK2.out; omega
                case rel => exact ⟨(decide ((rd l1 x11_2) > 4096)), (wrap64 (x11_2 + 1)), (by first | rfl | (simp; done) | (simp [*]; done)), (by first | rfl | (simp; done) | (simp [*]; done)), H', ⟨by have := HJ4.out; have := HK2.out; omega⟩, ⟨by (with_reducible repeat (first | apply Kd.R_alloc | apply Kd.R_drewN | apply Kd.R_drew)); exact HO_7.out⟩, ⟨by repeat (first | (with_reducible first | exact HB.out | apply below_alloc | apply pw_below_drewN | apply below_drew1) | exact HB.out)⟩⟩
              · rw [if_neg c10] at H
                exact absurd H (by simp)
          · rw [if_neg c8] at H
            have c8b0 : decide (x11_2 < (l1.length : Int)) = false := decide_eq_false c8
            clear c8
            have H' := Aside0.mk H
            clear H
            go_wp2
            go_loopg [10, 12] k2 (fun kq v10 v12 w' => ∃ (x10_3 : Bool) (x12_3 : Int), v10 = .bool x10_3 ∧ v12 = .int .i64 x12_3 ∧ Aside0 (bolterlaw34_FeedThrough.l1 kq a0 l1 l2 t103 t104 t105 x10_3 x12_3 = some r) ∧ Aside0 (kq ≤ k2) ∧ Aside0 (Kd.R (Kd.int .i64) 3 w' w.heap.size (fun _ => True) v106 t103) ∧ Aside0 (Below w.heap.size w w'))
            case atStart => exact ⟨(x10_2), (0), (by first | rfl | (simp; done) | (simp [*]; done)), (by first | rfl | (simp; done) | (simp [*]; done)), H', ⟨Nat.le_refl _⟩, ⟨by (with_reducible repeat (first | apply Kd.R_alloc | apply Kd.R_drewN | apply Kd.R_drew)); exact HO_7.out⟩, ⟨by repeat (first | (with_reducible first | exact HB.out | apply below_alloc | apply pw_below_drewN | apply below_drew1) | exact HB.out)⟩⟩
            case round =>
              clear H'
              try clear c1
              try clear p1
              try clear q1
              try clear hx1
              try clear c2
              try clear p2
              try clear c6
              try clear p6
              try clear c7
              try clear c7b0
              try clear c7b1
              try clear c8
              try clear c8b0
              try clear c9
              try clear c10
              try clear c10b0
              try clear p10
              try clear q10
              try clear hx10
              try clear hx108_0
              try clear p108
              try clear p2
              try clear q108
              obtain ⟨x10_3, x12_3, rfl, rfl, HA, HK3, HO_7, HB⟩ := hrel
              cases gk with
              | zero => exact absurd HA.out (by simp [bolterlaw34_FeedThrough.l1])
              | succ k3 =>
                have H := HA.out
                clear HA
                simp only [bolterlaw34_FeedThrough.l1] at H
                by_cases c11 : x12_3 < (l2.length : Int)
                · rw [if_pos c11] at H
                  have c11b0 : decide (x12_3 < (l2.length : Int)) = true := decide_eq_true c11
                  clear c11
                  by_cases c12 : x10_3 = true
                  · subst c12
                    have H1 : (bolterlaw34_FeedThrough.l1 k3 a0 l1 l2 t103 t104 t105 true (wrap64 (x12_3 + 1))) = some r := by rw [if_pos rfl] at H; exact H
                    clear H
                    have H := H1
                    clear H1
                    have H' := Aside0.mk H
                    clear H
                    go_wp2
                    go_roundg k3
                    case measure => have := HJ4.out; have := HK2.out; have := HK3.out; omega
                    case rel => exact ⟨(true), (wrap64 (x12_3 + 1)), (by first | rfl | (simp; done) | (simp [*]; done)), (by first | rfl | (simp; done) | (simp [*]; done)), H', ⟨by have := HJ4.out; have := HK2.out; have := HK3.out; omega⟩, ⟨by (with_reducible repeat (first | apply Kd.R_alloc | apply Kd.R_drewN | apply Kd.R_drew)); exact HO_7.out⟩, ⟨by repeat (first | (with_reducible first | exact HB.out | apply below_alloc | apply pw_below_drewN | apply below_drew1) | exact HB.out)⟩⟩
                  · replace c12 := Bool.eq_false_iff.mpr c12
                    subst c12
                    have H1 : (if 0 ≤ x12_3 then (bolterlaw34_FeedThrough.l1 k3 a0 l1 l2 t103 t104 t105 (decide ((rd l2 x12_3) > 4096)) (wrap64 (x12_3 + 1))) else (none)) = some r := by rw [if_neg (show ¬ (false = true) by decide)] at H; exact H
                    clear H
                    have H := H1
                    clear H1
                    by_cases c13 : 0 ≤ x12_3
                    · rw [if_pos c13] at H
                      have c13b0 : decide (0 ≤ x12_3) = true := decide_eq_true c13
                      clear c13
                      have H' := Aside0.mk H
                      clear H
                      have p109 : 0 ≤ (x12_3 : Int) := of_decide_eq_true (by first | (with_reducible assumption) | assumption)
                      have q109 : x12_3 < (l2.length : Int) := of_decide_eq_true (by first | (with_reducible assumption) | assumption)
                      obtain ⟨ad109, e109, hx109_0⟩ := Kd.at_int HR2.out x12_3 p109 q109
                      cases e109
                      replace hx109_0 := (HB.out.cell (World.block_lt_of_cell? w _ hx109_0)).trans hx109_0
                      replace p109 := eq_true p109
                      replace q109 := eq_true q109
                      go_wp2
                      go_roundg k3
                      case measure => have := HJ4.out; have := HK2.out; have := HK3.out; omega
                      case rel => exact ⟨(decide ((rd l2 x12_3) > 4096)), (wrap64 (x12_3 + 1)), (by first | rfl | (simp; done) | (simp [*]; done)), (by first | rfl | (simp; done) | (simp [*]; done)), H', ⟨by have := HJ4.out; have := HK2.out; have := HK3.out; omega⟩, ⟨by (with_reducible repeat (first | apply Kd.R_alloc | apply Kd.R_drewN | apply Kd.R_drew)); exact HO_7.out⟩, ⟨by repeat (first | (with_reducible first | exact HB.out | apply below_alloc | apply pw_below_drewN | apply below_drew1) | exact HB.out)⟩⟩
                    · rw [if_neg c13] at H
                      exact absurd H (by simp)
                · rw [if_neg c11] at H
                  have c11b0 : decide (x12_3 < (l2.length : Int)) = false := decide_eq_false c11
                  clear c11
                  have HC14 := Aside0.mk H
                  clear H
                  go_upto_region 11 with (fail)
                  go_cut [64] (fun v64 wc => ∃ (kq : Nat) (x64_13 : Bool), v64 = .bool x64_13 ∧ Aside0 (bolterlaw34_FeedThrough.j3 kq a0 l1 l2 t103 t104 t105 x10_3 x64_13 = some r) ∧ Aside0 (kq ≤ k3) ∧ Aside0 (Kd.R (Kd.int .i64) 3 wc w.heap.size (fun _ => True) v106 t103) ∧ Aside0 (Below w.heap.size w wc))
                  case first =>
                    have H := HC14.out
                    clear HC14
                    by_cases c15 : a0 < 1
                    · rw [if_pos c15] at H
                      have c15b0 : decide (a0 < 1) = true := decide_eq_true c15
                      clear c15
                      (first | rw [c15b0] | (simp only [i64_w, i32_w]; rw [c15b0]) | skip)
                      have H' := Aside0.mk H
                      clear H
                      go_wp2
                      go_meet
                      case rel => exact ⟨_, (true), (by first | rfl | (simp; done) | (simp [*]; done)), H', ⟨by have := HJ4.out; have := HK2.out; have := HK3.out; first | omega | exact Nat.le_refl _⟩, ⟨by (with_reducible repeat (first | apply Kd.R_alloc | apply Kd.R_drewN | apply Kd.R_drew)); exact HO_7.out⟩, ⟨by repeat (first | (with_reducible first | exact HB.out | apply below_alloc | apply pw_below_drewN | apply below_drew1) | exact HB.out)⟩⟩
                    · rw [if_neg c15] at H
                      have c15b0 : decide (a0 < 1) = false := decide_eq_false c15
                      clear c15
                      (first | rw [c15b0] | (simp only [i64_w, i32_w]; rw [c15b0]) | skip)
                      have H' := Aside0.mk H
                      clear H
                      go_wp2
                      go_meet
                      case rel => exact ⟨_, (decide (a0 > 4096)), (by first | rfl | (simp; done) | (simp [*]; done)), H', ⟨by have := HJ4.out; have := HK2.out; have := HK3.out; first | omega | exact Nat.le_refl _⟩, ⟨by (with_reducible repeat (first | apply Kd.R_alloc | apply Kd.R_drewN | apply Kd.R_drew)); exact HO_7.out⟩, ⟨by repeat (first | (with_reducible first | exact HB.out | apply below_alloc | apply pw_below_drewN | apply below_drew1) | exact HB.out)⟩⟩
                  case rest =>
                    clear HC14
                    try clear c1
                    try clear p1
                    try clear q1
                    try clear hx1
                    try clear c2
                    try clear p2
                    try clear c6
                    try clear p6
                    try clear c7
                    try clear c7b0
                    try clear c7b1
                    try clear c8
                    try clear c8b0
                    try clear c9
                    try clear c10
                    try clear c10b0
                    try clear p10
                    try clear q10
                    try clear hx10
                    try clear c11
                    try clear c11b0
                    try clear c12
                    try clear c13
                    try clear c13b0
                    try clear c15
                    try clear c15b0
                    try clear hx108_0
                    try clear hx109_0
                    try clear p1
                    try clear p10
                    try clear p108
                    try clear p109
                    try clear p2
                    try clear p6
                    try clear q1
                    try clear q10
                    try clear q108
                    try clear q109
                    obtain ⟨kq, x64_13, rfl, HA, HJ13, HO_7, HB⟩ := hcut
                    cases kq with
                    | zero => exact absurd HA.out (by simp [bolterlaw34_FeedThrough.j3])
                    | succ kj13 =>
                      have H := HA.out
                      clear HA
                      simp only [bolterlaw34_FeedThrough.j3] at H
                      by_cases c16 : x64_13 = true
                      · subst c16
                        have H1 : (if t105 = 4 then (if (t103.length : Int) = 0 then (if t104 = 0 then ((bolterlaw34_alive.f).bind fun t110 => (some t110)) else (some false)) else (some false)) else (some false)) = some r := by rw [if_pos rfl] at H; exact H
                        clear H
                        have H := H1
                        clear H1
                        by_cases c17 : t105 = 4
                        · rw [if_pos c17] at H
                          have c17b0 : (t105 == 4) = true := beq_iff_eq.mpr c17
                          have c17b1 : (t105 != 4) = false := bne_eq_false_iff_eq.mpr c17
                          clear c17
                          by_cases c18 : (t103.length : Int) = 0
                          · rw [if_pos c18] at H
                            have c18b0 : ((t103.length : Int) == 0) = true := beq_iff_eq.mpr c18
                            have c18b1 : ((t103.length : Int) != 0) = false := bne_eq_false_iff_eq.mpr c18
                            clear c18
                            by_cases c19 : t104 = 0
                            · rw [if_pos c19] at H
                              have c19b0 : (t104 == 0) = true := beq_iff_eq.mpr c19
                              have c19b1 : (t104 != 0) = false := bne_eq_false_iff_eq.mpr c19
                              clear c19
                              replace H := Option.bind_eq_some_iff.mp H
                              obtain ⟨t110, A200, H⟩ := H
                              replace H : (some t110) = some r := H
                              have A20 := Aside0.mk A200
                              clear A200
                              obtain rfl := Option.some.inj H
                              obtain ⟨Ao21, co21, eo21⟩ := Kd.R_slice HO_7.out
                              subst eo21
                              go_wp2_with (first | (go_at_call 7; (with_reducible refine (bolterlaw34_alive.calls  t110 _ A20.out).mono ?_); rintro e w22 ⟨rfl, hb⟩; have n0_ := Aside0.mk (Kd.R_below (by (with_reducible repeat (first | apply Kd.R_alloc | apply Kd.R_drewN | apply Kd.R_drew)); exact HO_7.out) hb); have n1_ := Aside0.mk (below_step (by repeat (first | (with_reducible first | exact HB.out | apply below_alloc | apply pw_below_drewN | apply below_drew1) | exact HB.out)) hb); clear HO_7; clear HB; have HO_7 := n0_; have HB := n1_; clear n0_ n1_; (try clear hb); (try clear hb2); (try clear hk); (try clear hi)))
                              go_ret
                              exact ⟨by first | rfl | (simp [errW_none, errW_some] <;> rfl) | (simp [*, errW_none, errW_some] <;> rfl), by repeat (first | (with_reducible first | exact HB.out | apply below_alloc | apply pw_below_drewN | apply below_drew1) | exact HB.out)⟩
                            · rw [if_neg c19] at H
                              have c19b0 : (t104 == 0) = false := beq_eq_false_iff_ne.mpr c19
                              have c19b1 : (t104 != 0) = true := bne_iff_ne.mpr c19
                              obtain rfl := Option.some.inj H
                              obtain ⟨Ao23, co23, eo23⟩ := Kd.R_slice HO_7.out
                              subst eo23
                              go_wp2
                              go_ret
                              exact ⟨by first | rfl | (simp [errW_none, errW_some] <;> rfl) | (simp [*, errW_none, errW_some] <;> rfl), by repeat (first | (with_reducible first | exact HB.out | apply below_alloc | apply pw_below_drewN | apply below_drew1) | exact HB.out)⟩
                          · rw [if_neg c18] at H
                            have c18b0 : ((t103.length : Int) == 0) = false := beq_eq_false_iff_ne.mpr c18
                            have c18b1 : ((t103.length : Int) != 0) = true := bne_iff_ne.mpr c18
                            have c18b2 : ¬ (t103 = []) := fun h_ => c18 (by rw [h_]; rfl)
                            obtain rfl := Option.some.inj H
                            obtain ⟨Ao24, co24, eo24⟩ := Kd.R_slice HO_7.out
                            subst eo24
                            go_wp2
                            go_ret
                            exact ⟨by first | rfl | (simp [errW_none, errW_some] <;> rfl) | (simp [*, errW_none, errW_some] <;> rfl), by repeat (first | (with_reducible first | exact HB.out | apply below_alloc | apply pw_below_drewN | apply below_drew1) | exact HB.out)⟩
                        · rw [if_neg c17] at H
                          have c17b0 : (t105 == 4) = false := beq_eq_false_iff_ne.mpr c17
                          have c17b1 : (t105 != 4) = true := bne_iff_ne.mpr c17
                          obtain rfl := Option.some.inj H
                          go_wp2
                          go_ret
                          exact ⟨by first | rfl | (simp [errW_none, errW_some] <;> rfl) | (simp [*, errW_none, errW_some] <;> rfl), by repeat (first | (with_reducible first | exact HB.out | apply below_alloc | apply pw_below_drewN | apply below_drew1) | exact HB.out)⟩
                      · replace c16 := Bool.eq_false_iff.mpr c16
                        subst c16
                        have H1 : (if x10_3 = true then (if t105 = 3 then (if (t103.length : Int) = 0 then (if t104 = 0 then ((bolterlaw34_alive.f).bind fun t111 => (some t111)) else (some false)) else (some false)) else (some false)) else (bolterlaw34_FeedThrough.l2 kj13 a0 l1 l2 t103 t104 t105 ([] : List Int) ([] : List Int) 1 0 0)) = some r := by rw [if_neg (show ¬ (false = true) by decide)] at H; exact H
                        clear H
                        have H := H1
                        clear H1
                        by_cases c25 : x10_3 = true
                        · subst c25
                          have H1 : (if t105 = 3 then (if (t103.length : Int) = 0 then (if t104 = 0 then ((bolterlaw34_alive.f).bind fun t111 => (some t111)) else (some false)) else (some false)) else (some false)) = some r := by rw [if_pos rfl] at H; exact H
                          clear H
                          have H := H1
                          clear H1
                          by_cases c26 : t105 = 3
                          · rw [if_pos c26] at H
                            have c26b0 : (t105 == 3) = true := beq_iff_eq.mpr c26
                            have c26b1 : (t105 != 3) = false := bne_eq_false_iff_eq.mpr c26
                            clear c26
                            by_cases c27 : (t103.length : Int) = 0
                            · rw [if_pos c27] at H
                              have c27b0 : ((t103.length : Int) == 0) = true := beq_iff_eq.mpr c27
                              have c27b1 : ((t103.length : Int) != 0) = false := bne_eq_false_iff_eq.mpr c27
                              clear c27
                              by_cases c28 : t104 = 0
                              · rw [if_pos c28] at H
                                have c28b0 : (t104 == 0) = true := beq_iff_eq.mpr c28
                                have c28b1 : (t104 != 0) = false := bne_eq_false_iff_eq.mpr c28
                                clear c28
                                replace H := Option.bind_eq_some_iff.mp H
                                obtain ⟨t111, A290, H⟩ := H
                                replace H : (some t111) = some r := H
                                have A29 := Aside0.mk A290
                                clear A290
                                obtain rfl := Option.some.inj H
                                obtain ⟨Ao30, co30, eo30⟩ := Kd.R_slice HO_7.out
                                subst eo30
                                go_wp2_with (first | (go_at_call 7; (with_reducible refine (bolterlaw34_alive.calls  t111 _ A29.out).mono ?_); rintro e w31 ⟨rfl, hb⟩; have n0_ := Aside0.mk (Kd.R_below (by (with_reducible repeat (first | apply Kd.R_alloc | apply Kd.R_drewN | apply Kd.R_drew)); exact HO_7.out) hb); have n1_ := Aside0.mk (below_step (by repeat (first | (with_reducible first | exact HB.out | apply below_alloc | apply pw_below_drewN | apply below_drew1) | exact HB.out)) hb); clear HO_7; clear HB; have HO_7 := n0_; have HB := n1_; clear n0_ n1_; (try clear hb); (try clear hb2); (try clear hk); (try clear hi)))
                                go_ret
                                exact ⟨by first | rfl | (simp [errW_none, errW_some] <;> rfl) | (simp [*, errW_none, errW_some] <;> rfl), by repeat (first | (with_reducible first | exact HB.out | apply below_alloc | apply pw_below_drewN | apply below_drew1) | exact HB.out)⟩
                              · rw [if_neg c28] at H
                                have c28b0 : (t104 == 0) = false := beq_eq_false_iff_ne.mpr c28
                                have c28b1 : (t104 != 0) = true := bne_iff_ne.mpr c28
                                obtain rfl := Option.some.inj H
                                obtain ⟨Ao32, co32, eo32⟩ := Kd.R_slice HO_7.out
                                subst eo32
                                go_wp2
                                go_ret
                                exact ⟨by first | rfl | (simp [errW_none, errW_some] <;> rfl) | (simp [*, errW_none, errW_some] <;> rfl), by repeat (first | (with_reducible first | exact HB.out | apply below_alloc | apply pw_below_drewN | apply below_drew1) | exact HB.out)⟩
                            · rw [if_neg c27] at H
                              have c27b0 : ((t103.length : Int) == 0) = false := beq_eq_false_iff_ne.mpr c27
                              have c27b1 : ((t103.length : Int) != 0) = true := bne_iff_ne.mpr c27
                              have c27b2 : ¬ (t103 = []) := fun h_ => c27 (by rw [h_]; rfl)
                              obtain rfl := Option.some.inj H
                              obtain ⟨Ao33, co33, eo33⟩ := Kd.R_slice HO_7.out
                              subst eo33
                              go_wp2
                              go_ret
                              exact ⟨by first | rfl | (simp [errW_none, errW_some] <;> rfl) | (simp [*, errW_none, errW_some] <;> rfl), by repeat (first | (with_reducible first | exact HB.out | apply below_alloc | apply pw_below_drewN | apply below_drew1) | exact HB.out)⟩
                          · rw [if_neg c26] at H
                            have c26b0 : (t105 == 3) = false := beq_eq_false_iff_ne.mpr c26
                            have c26b1 : (t105 != 3) = true := bne_iff_ne.mpr c26
                            obtain rfl := Option.some.inj H
                            go_wp2
                            go_ret
                            exact ⟨by first | rfl | (simp [errW_none, errW_some] <;> rfl) | (simp [*, errW_none, errW_some] <;> rfl), by repeat (first | (with_reducible first | exact HB.out | apply below_alloc | apply pw_below_drewN | apply below_drew1) | exact HB.out)⟩
                        · replace c25 := Bool.eq_false_iff.mpr c25
                          subst c25
                          have H1 : (bolterlaw34_FeedThrough.l2 kj13 a0 l1 l2 t103 t104 t105 ([] : List Int) ([] : List Int) 1 0 0) = some r := by rw [if_neg (show ¬ (false = true) by decide)] at H; exact H
                          clear H
                          have H := H1
                          clear H1
                          have H' := Aside0.mk H
                          clear H
                          go_wp2
                          go_loopg [13, 14, 15, 16, 17] kj13 (fun kq v13 v14 v15 v16 v17 w' => ∃ (x13_5 : List Int) (x14_5 : List Int) (x15_5 : Int) (x16_5 : Int) (x17_5 : Int), v15 = .int .i64 x15_5 ∧ v16 = .int .i64 x16_5 ∧ v17 = .int .i64 x17_5 ∧ Aside0 (bolterlaw34_FeedThrough.l2 kq a0 l1 l2 t103 t104 t105 x13_5 x14_5 x15_5 x16_5 x17_5 = some r) ∧ Aside0 (kq ≤ kj13) ∧ Aside0 (Kd.R (Kd.int .i64) 3 w' w.heap.size (fun k_ => some k_ ≠ (v13 : Value).ownBlock ∧ some k_ ≠ (v14 : Value).ownBlock) v106 t103) ∧ Aside0 (Kd.Q (Kd.int .i64) 3 w' w.heap.size (fun k_ => some k_ ≠ (v106 : Value).ownBlock ∧ some k_ ≠ (v14 : Value).ownBlock) v13 x13_5) ∧ Aside0 (Kd.R (Kd.int .i64) 3 w' w.heap.size (fun k_ => some k_ ≠ (v106 : Value).ownBlock ∧ some k_ ≠ (v13 : Value).ownBlock) v14 x14_5) ∧ Aside0 (Below w.heap.size w w'))
                          case atStart => exact ⟨(([] : List Int)), (([] : List Int)), (1), (0), (0), (by first | rfl | (simp; done) | (simp [*]; done)), (by first | rfl | (simp; done) | (simp [*]; done)), (by first | rfl | (simp; done) | (simp [*]; done)), H', ⟨Nat.le_refl _⟩, ⟨by (with_reducible repeat (first | apply Kd.R_alloc | apply Kd.R_drewN | apply Kd.R_drew)); exact Kd.R_mono HO_7.out (fun _ hk => ⟨(by simp [Value.ownBlock]), (by simp [Value.ownBlock])⟩)⟩, ⟨Kd.Q_of_R (by first | exact Kd.R_nil _ _ _ _ _ | exact Kd.N_nil _ _ _ _ _ | exact Kd.V_nil _ _ _ _ _ | exact Kd.Q_nil _ _ _ _ _ | exact Kd.S_nil _ _ _ _ _)⟩, ⟨by first | exact Kd.R_nil _ _ _ _ _ | exact Kd.N_nil _ _ _ _ _ | exact Kd.V_nil _ _ _ _ _ | exact Kd.Q_nil _ _ _ _ _ | exact Kd.S_nil _ _ _ _ _⟩, ⟨by repeat (first | (with_reducible first | exact HB.out | apply below_alloc | apply pw_below_drewN | apply below_drew1) | exact HB.out)⟩⟩
                          case round =>
                            clear H'
                            try clear c1
                            try clear p1
                            try clear q1
                            try clear hx1
                            try clear c2
                            try clear p2
                            try clear c6
                            try clear p6
                            try clear c7
                            try clear c7b0
                            try clear c7b1
                            try clear c8
                            try clear c8b0
                            try clear c9
                            try clear c10
                            try clear c10b0
                            try clear p10
                            try clear q10
                            try clear hx10
                            try clear c11
                            try clear c11b0
                            try clear c12
                            try clear c13
                            try clear c13b0
                            try clear c15
                            try clear c15b0
                            try clear c16
                            try clear c17
                            try clear c17b0
                            try clear c17b1
                            try clear c18
                            try clear c18b0
                            try clear c18b1
                            try clear c18b2
                            try clear c19
                            try clear c19b0
                            try clear c19b1
                            try clear c25
                            try clear c26
                            try clear c26b0
                            try clear c26b1
                            try clear c27
                            try clear c27b0
                            try clear c27b1
                            try clear c27b2
                            try clear c28
                            try clear c28b0
                            try clear c28b1
                            try clear hx108_0
                            try clear hx109_0
                            try clear p1
                            try clear p10
                            try clear p108
                            try clear p109
                            try clear p2
                            try clear p6
                            try clear q1
                            try clear q10
                            try clear q108
                            try clear q109
                            obtain ⟨x13_5, x14_5, x15_5, x16_5, x17_5, rfl, rfl, rfl, HA, HK5, HO_7, HO_13, HO_14, HB⟩ := hrel
                            cases gk with
                            | zero => exact absurd HA.out (by simp [bolterlaw34_FeedThrough.l2])
                            | succ k5 =>
                              have H := HA.out
                              clear HA
                              simp only [bolterlaw34_FeedThrough.l2] at H
                              have HC34 := Aside0.mk H
                              clear H
                              go_upto_region 18 with (fail)
                              go_cut [110] (fun v110 wc => ∃ (kq : Nat) (x110_33 : Bool), v110 = .bool x110_33 ∧ Aside0 (bolterlaw34_FeedThrough.j5 kq a0 l1 l2 t103 t104 t105 x13_5 x14_5 x15_5 x16_5 x17_5 x110_33 = some r) ∧ Aside0 (kq ≤ k5) ∧ Aside0 (Kd.R (Kd.int .i64) 3 wc w.heap.size (fun k_ => some k_ ≠ (u13 : Value).ownBlock ∧ some k_ ≠ (u14 : Value).ownBlock) v106 t103) ∧ Aside0 (Kd.Q (Kd.int .i64) 3 wc w.heap.size (fun k_ => some k_ ≠ (v106 : Value).ownBlock ∧ some k_ ≠ (u14 : Value).ownBlock) u13 x13_5) ∧ Aside0 (Kd.R (Kd.int .i64) 3 wc w.heap.size (fun k_ => some k_ ≠ (v106 : Value).ownBlock ∧ some k_ ≠ (u13 : Value).ownBlock) u14 x14_5) ∧ Aside0 (Below w.heap.size w wc))
                              case first =>
                                have H := HC34.out
                                clear HC34
                                by_cases c35 : x17_5 < (l1.length : Int)
                                · rw [if_pos c35] at H
                                  have c35b0 : decide (x17_5 < (l1.length : Int)) = true := decide_eq_true c35
                                  clear c35
                                  (first | rw [c35b0] | (simp only [i64_w, i32_w]; rw [c35b0]) | skip)
                                  have H' := Aside0.mk H
                                  clear H
                                  go_wp2
                                  go_meet
                                  case rel => exact ⟨_, (true), (by first | rfl | (simp; done) | (simp [*]; done)), H', ⟨by have := HJ4.out; have := HK2.out; have := HK3.out; have := HJ13.out; have := HK5.out; first | omega | exact Nat.le_refl _⟩, ⟨by (with_reducible repeat (first | apply Kd.R_alloc | apply Kd.R_drewN | apply Kd.R_drew)); exact HO_7.out⟩, ⟨by (with_reducible repeat (first | apply Kd.Q_alloc | apply Kd.Q_drewN | apply Kd.Q_drew)); exact HO_13.out⟩, ⟨by (with_reducible repeat (first | apply Kd.R_alloc | apply Kd.R_drewN | apply Kd.R_drew)); exact HO_14.out⟩, ⟨by repeat (first | (with_reducible first | exact HB.out | apply below_alloc | apply pw_below_drewN | apply below_drew1) | exact HB.out)⟩⟩
                                · rw [if_neg c35] at H
                                  have c35b0 : decide (x17_5 < (l1.length : Int)) = false := decide_eq_false c35
                                  clear c35
                                  (first | rw [c35b0] | (simp only [i64_w, i32_w]; rw [c35b0]) | skip)
                                  have H' := Aside0.mk H
                                  clear H
                                  go_wp2
                                  go_meet
                                  case rel => exact ⟨_, (decide (x17_5 < (l2.length : Int))), (by first | rfl | (simp; done) | (simp [*]; done)), H', ⟨by have := HJ4.out; have := HK2.out; have := HK3.out; have := HJ13.out; have := HK5.out; first | omega | exact Nat.le_refl _⟩, ⟨by (with_reducible repeat (first | apply Kd.R_alloc | apply Kd.R_drewN | apply Kd.R_drew)); exact HO_7.out⟩, ⟨by (with_reducible repeat (first | apply Kd.Q_alloc | apply Kd.Q_drewN | apply Kd.Q_drew)); exact HO_13.out⟩, ⟨by (with_reducible repeat (first | apply Kd.R_alloc | apply Kd.R_drewN | apply Kd.R_drew)); exact HO_14.out⟩, ⟨by repeat (first | (with_reducible first | exact HB.out | apply below_alloc | apply pw_below_drewN | apply below_drew1) | exact HB.out)⟩⟩
                              case rest =>
                                clear HC34
                                try clear c1
                                try clear p1
                                try clear q1
                                try clear hx1
                                try clear c2
                                try clear p2
                                try clear c3
                                try clear c6
                                try clear p6
                                try clear c7
                                try clear c7b0
                                try clear c7b1
                                try clear c8
                                try clear c8b0
                                try clear c9
                                try clear c10
                                try clear c10b0
                                try clear p10
                                try clear q10
                                try clear hx10
                                try clear c11
                                try clear c11b0
                                try clear c12
                                try clear c13
                                try clear c13b0
                                try clear c15
                                try clear c15b0
                                try clear c16
                                try clear c17
                                try clear c17b0
                                try clear c17b1
                                try clear c18
                                try clear c18b0
                                try clear c18b1
                                try clear c18b2
                                try clear c19
                                try clear c19b0
                                try clear c19b1
                                try clear c25
                                try clear c26
                                try clear c26b0
                                try clear c26b1
                                try clear c27
                                try clear c27b0
                                try clear c27b1
                                try clear c27b2
                                try clear c28
                                try clear c28b0
                                try clear c28b1
                                try clear c35
                                try clear c35b0
                                try clear hx108_0
                                try clear hx109_0
                                try clear p1
                                try clear p10
                                try clear p108
                                try clear p109
                                try clear p2
                                try clear p6
                                try clear q1
                                try clear q10
                                try clear q108
                                try clear q109
                                obtain ⟨kq, x110_33, rfl, HA, HJ33, HO_7, HO_13, HO_14, HB⟩ := hcut
                                cases kq with
                                | zero => exact absurd HA.out (by simp [bolterlaw34_FeedThrough.j5])
                                | succ kj33 =>
                                  have H := HA.out
                                  clear HA
                                  simp only [bolterlaw34_FeedThrough.j5] at H
                                  by_cases c36 : x110_33 = true
                                  · subst c36
                                    have H1 : (bolterlaw34_FeedThrough.l3 kj33 a0 l1 l2 t103 t104 t105 x13_5 x14_5 x15_5 x16_5 x17_5 0) = some r := by rw [if_pos rfl] at H; exact H
                                    clear H
                                    have H := H1
                                    clear H1
                                    have H' := Aside0.mk H
                                    clear H
                                    go_wp2
                                    go_loopg [13, 15, 16, 18] kj33 (fun kq v13 v15 v16 v18 w' => ∃ (x13_7 : List Int) (x15_7 : Int) (x16_7 : Int) (x18_7 : Int), v15 = .int .i64 x15_7 ∧ v16 = .int .i64 x16_7 ∧ v18 = .int .i64 x18_7 ∧ Aside0 (bolterlaw34_FeedThrough.l3 kq a0 l1 l2 t103 t104 t105 x13_7 x14_5 x15_7 x16_7 x17_5 x18_7 = some r) ∧ Aside0 (kq ≤ kj33) ∧ Aside0 (Kd.R (Kd.int .i64) 3 w' w.heap.size (fun k_ => some k_ ≠ (v13 : Value).ownBlock ∧ some k_ ≠ (u14 : Value).ownBlock) v106 t103) ∧ Aside0 (Kd.Q (Kd.int .i64) 3 w' w.heap.size (fun k_ => some k_ ≠ (v106 : Value).ownBlock ∧ some k_ ≠ (u14 : Value).ownBlock) v13 x13_7) ∧ Aside0 (Kd.R (Kd.int .i64) 3 w' w.heap.size (fun k_ => some k_ ≠ (v106 : Value).ownBlock ∧ some k_ ≠ (v13 : Value).ownBlock) u14 x14_5) ∧ Aside0 (Below w.heap.size w w'))
                                    case atStart => exact ⟨(x13_5), (x15_5), (x16_5), (0), (by first | rfl | (simp; done) | (simp [*]; done)), (by first | rfl | (simp; done) | (simp [*]; done)), (by first | rfl | (simp; done) | (simp [*]; done)), H', ⟨Nat.le_refl _⟩, ⟨by (with_reducible repeat (first | apply Kd.R_alloc | apply Kd.R_drewN | apply Kd.R_drew)); exact HO_7.out⟩, ⟨by (with_reducible repeat (first | apply Kd.Q_alloc | apply Kd.Q_drewN | apply Kd.Q_drew)); exact HO_13.out⟩, ⟨by (with_reducible repeat (first | apply Kd.R_alloc | apply Kd.R_drewN | apply Kd.R_drew)); exact HO_14.out⟩, ⟨by repeat (first | (with_reducible first | exact HB.out | apply below_alloc | apply pw_below_drewN | apply below_drew1) | exact HB.out)⟩⟩
                                    case round =>
                                      clear H'
                                      try clear c1
                                      try clear p1
                                      try clear q1
                                      try clear hx1
                                      try clear c2
                                      try clear p2
                                      try clear c3
                                      try clear c6
                                      try clear p6
                                      try clear c7
                                      try clear c7b0
                                      try clear c7b1
                                      try clear c8
                                      try clear c8b0
                                      try clear c9
                                      try clear c10
                                      try clear c10b0
                                      try clear p10
                                      try clear q10
                                      try clear hx10
                                      try clear c11
                                      try clear c11b0
                                      try clear c12
                                      try clear c13
                                      try clear c13b0
                                      try clear c15
                                      try clear c15b0
                                      try clear c16
                                      try clear c17
                                      try clear c17b0
                                      try clear c17b1
                                      try clear c18
                                      try clear c18b0
                                      try clear c18b1
                                      try clear c18b2
                                      try clear c19
                                      try clear c19b0
                                      try clear c19b1
                                      try clear c25
                                      try clear c26
                                      try clear c26b0
                                      try clear c26b1
                                      try clear c27
                                      try clear c27b0
                                      try clear c27b1
                                      try clear c27b2
                                      try clear c28
                                      try clear c28b0
                                      try clear c28b1
                                      try clear c35
                                      try clear c35b0
                                      try clear c36
                                      try clear hx108_0
                                      try clear hx109_0
                                      try clear p1
                                      try clear p10
                                      try clear p108
                                      try clear p109
                                      try clear p2
                                      try clear p6
                                      try clear q1
                                      try clear q10
                                      try clear q108
                                      try clear q109
                                      obtain ⟨x13_7, x15_7, x16_7, x18_7, rfl, rfl, rfl, HA, HK7, HO_7, HO_13, HO_14, HB⟩ := hrel
                                      cases gk with
                                      | zero => exact absurd HA.out (by simp [bolterlaw34_FeedThrough.l3])
                                      | succ k7 =>
                                        have H := HA.out
                                        clear HA
                                        simp only [bolterlaw34_FeedThrough.l3] at H
                                        have HC37 := Aside0.mk H
                                        clear H
                                        go_upto_region 21 with (fail)
                                        go_cut [124] (fun v124 wc => ∃ (kq : Nat) (x124_36 : Bool), v124 = .bool x124_36 ∧ Aside0 (bolterlaw34_FeedThrough.j7 kq a0 l1 l2 t103 t104 t105 x13_7 x14_5 x15_7 x16_7 x17_5 x18_7 x124_36 = some r) ∧ Aside0 (kq ≤ k7) ∧ Aside0 (Kd.R (Kd.int .i64) 3 wc w.heap.size (fun k_ => some k_ ≠ (u13 : Value).ownBlock ∧ some k_ ≠ (u14 : Value).ownBlock) v106 t103) ∧ Aside0 (Kd.Q (Kd.int .i64) 3 wc w.heap.size (fun k_ => some k_ ≠ (v106 : Value).ownBlock ∧ some k_ ≠ (u14 : Value).ownBlock) u13 x13_7) ∧ Aside0 (Kd.R (Kd.int .i64) 3 wc w.heap.size (fun k_ => some k_ ≠ (v106 : Value).ownBlock ∧ some k_ ≠ (u13 : Value).ownBlock) u14 x14_5) ∧ Aside0 (Below w.heap.size w wc))
                                        case first =>
                                          have H := HC37.out
                                          clear HC37
                                          by_cases c38 : x17_5 < (l1.length : Int)
                                          · rw [if_pos c38] at H
                                            have c38b0 : decide (x17_5 < (l1.length : Int)) = true := decide_eq_true c38
                                            clear c38
                                            (first | rw [c38b0] | (simp only [i64_w, i32_w]; rw [c38b0]) | skip)
                                            by_cases c39 : 0 ≤ x17_5
                                            · rw [if_pos c39] at H
                                              have c39b0 : decide (0 ≤ x17_5) = true := decide_eq_true c39
                                              clear c39
                                              have H' := Aside0.mk H
                                              clear H
                                              have p114 : 0 ≤ (x17_5 : Int) := of_decide_eq_true (by first | (with_reducible assumption) | assumption)
                                              have q114 : x17_5 < (l1.length : Int) := of_decide_eq_true (by first | (with_reducible assumption) | assumption)
                                              obtain ⟨ad114, e114, hx114_0⟩ := Kd.at_int HR1.out x17_5 p114 q114
                                              cases e114
                                              replace hx114_0 := (HB.out.cell (World.block_lt_of_cell? w _ hx114_0)).trans hx114_0
                                              replace p114 := eq_true p114
                                              replace q114 := eq_true q114
                                              go_wp2
                                              go_meet
                                              case rel => exact ⟨_, (decide (x18_7 < (rd l1 x17_5))), (by first | rfl | (simp; done) | (simp [*]; done)), H', ⟨by have := HJ4.out; have := HK2.out; have := HK3.out; have := HJ13.out; have := HK5.out; have := HJ33.out; have := HK7.out; first | omega | exact Nat.le_refl _⟩, ⟨by (with_reducible repeat (first | apply Kd.R_alloc | apply Kd.R_drewN | apply Kd.R_drew)); exact HO_7.out⟩, ⟨by (with_reducible repeat (first | apply Kd.Q_alloc | apply Kd.Q_drewN | apply Kd.Q_drew)); exact HO_13.out⟩, ⟨by (with_reducible repeat (first | apply Kd.R_alloc | apply Kd.R_drewN | apply Kd.R_drew)); exact HO_14.out⟩, ⟨by repeat (first | (with_reducible first | exact HB.out | apply below_alloc | apply pw_below_drewN | apply below_drew1) | exact HB.out)⟩⟩
                                            · rw [if_neg c39] at H
                                              exact absurd H (by simp)
                                          · rw [if_neg c38] at H
                                            have c38b0 : decide (x17_5 < (l1.length : Int)) = false := decide_eq_false c38
                                            clear c38
                                            (first | rw [c38b0] | (simp only [i64_w, i32_w]; rw [c38b0]) | skip)
                                            have H' := Aside0.mk H
                                            clear H
                                            go_wp2
                                            go_meet
                                            case rel => exact ⟨_, (false), (by first | rfl | (simp; done) | (simp [*]; done)), H', ⟨by have := HJ4.out; have := HK2.out; have := HK3.out; have := HJ13.out; have := HK5.out; have := HJ33.out; have := HK7.out; first | omega | exact Nat.le_refl _⟩, ⟨by (with_reducible repeat (first | apply Kd.R_alloc | apply Kd.R_drewN | apply Kd.R_drew)); exact HO_7.out⟩, ⟨by (with_reducible repeat (first | apply Kd.Q_alloc | apply Kd.Q_drewN | apply Kd.Q_drew)); exact HO_13.out⟩, ⟨by (with_reducible repeat (first | apply Kd.R_alloc | apply Kd.R_drewN | apply Kd.R_drew)); exact HO_14.out⟩, ⟨by repeat (first | (with_reducible first | exact HB.out | apply below_alloc | apply pw_below_drewN | apply below_drew1) | exact HB.out)⟩⟩
                                        case rest =>
                                          clear HC37
                                          try clear c1
                                          try clear p1
                                          try clear q1
                                          try clear hx1
                                          try clear c2
                                          try clear p2
                                          try clear c3
                                          try clear c6
                                          try clear p6
                                          try clear c7
                                          try clear c7b0
                                          try clear c7b1
                                          try clear c8
                                          try clear c8b0
                                          try clear c9
                                          try clear c10
                                          try clear c10b0
                                          try clear p10
                                          try clear q10
                                          try clear hx10
                                          try clear c11
                                          try clear c11b0
                                          try clear p11
                                          try clear q11
                                          try clear hx11
                                          try clear c12
                                          try clear c13
                                          try clear c13b0
                                          try clear c15
                                          try clear c15b0
                                          try clear c16
                                          try clear c17
                                          try clear c17b0
                                          try clear c17b1
                                          try clear c18
                                          try clear c18b0
                                          try clear c18b1
                                          try clear c18b2
                                          try clear c19
                                          try clear c19b0
                                          try clear c19b1
                                          try clear c25
                                          try clear c26
                                          try clear c26b0
                                          try clear c26b1
                                          try clear c27
                                          try clear c27b0
                                          try clear c27b1
                                          try clear c27b2
                                          try clear c28
                                          try clear c28b0
                                          try clear c28b1
                                          try clear c35
                                          try clear c35b0
                                          try clear c36
                                          try clear c38
                                          try clear c38b0
                                          try clear c39
                                          try clear c39b0
                                          try clear hx108_0
                                          try clear hx109_0
                                          try clear hx114_0
                                          try clear p1
                                          try clear p10
                                          try clear p108
                                          try clear p109
                                          try clear p114
                                          try clear p2
                                          try clear p6
                                          try clear q1
                                          try clear q10
                                          try clear q108
                                          try clear q109
                                          try clear q114
                                          obtain ⟨kq, x124_36, rfl, HA, HJ36, HO_7, HO_13, HO_14, HB⟩ := hcut
                                          cases kq with
                                          | zero => exact absurd HA.out (by simp [bolterlaw34_FeedThrough.j7])
                                          | succ kj36 =>
                                            have H := HA.out
                                            clear HA
                                            simp only [bolterlaw34_FeedThrough.j7] at H
                                            by_cases c40 : x124_36 = true
                                            · subst c40
                                              have H1 : (if (x13_7.length : Int) < a0 then (if x13_7.length < 17592186044416 then (bolterlaw34_FeedThrough.l3 kj36 a0 l1 l2 t103 t104 t105 (x13_7 ++ [x15_7]) x14_5 (wrap64 (x15_7 + 1)) x16_7 x17_5 (wrap64 (x18_7 + 1))) else (none)) else (bolterlaw34_FeedThrough.l3 kj36 a0 l1 l2 t103 t104 t105 x13_7 x14_5 (wrap64 (x15_7 + 1)) (wrap64 (x16_7 + 1)) x17_5 (wrap64 (x18_7 + 1)))) = some r := by rw [if_pos rfl] at H; exact H
                                              clear H
                                              have H := H1
                                              clear H1
                                              by_cases c41 : (x13_7.length : Int) < a0
                                              · rw [if_pos c41] at H
                                                have c41b0 : decide ((x13_7.length : Int) < a0) = true := decide_eq_true c41
                                                clear c41
                                                by_cases c42 : x13_7.length < 17592186044416
                                                · rw [if_pos c42] at H
                                                  have LMc42 := Aside0.mk c42
                                                  clear c42
                                                  obtain ⟨y115, hy115⟩ : ∃ y_ : List Int, y_ = (x13_7 ++ [x15_7]) := ⟨_, rfl⟩
                                                  replace H : (bolterlaw34_FeedThrough.l3 kj36 a0 l1 l2 t103 t104 t105 y115 x14_5 (wrap64 (x15_7 + 1)) x16_7 x17_5 (wrap64 (x18_7 + 1))) = some r := by first | (rw [hy115]; with_reducible exact H) | (have H2_ := (Option.bind_some _ _).symm.trans H; rw [hy115]; with_reducible exact H2_) | (have H2_ := (Option.bind_some _ _).symm.trans H; with_reducible exact H2_) | with_reducible exact H | (rw [hy115]; exact H) | exact H
                                                  have Ny115 := Aside0.mk hy115
                                                  clear hy115
                                                  have H' := Aside0.mk H
                                                  clear H
                                                  obtain ⟨Ao43, co43, eo43, _⟩ := Kd.Q_slice HO_13.out
                                                  subst eo43
                                                  go_wp2_with (first | ((with_reducible refine gate_builtin (b := .append) (xs := #[.tmp 131, .tmp 133]) rfl ?_); (try (refine gate_guard (by rfl) ?_; dsimp only)); at_builtin; refine Kd.Q_append (Kd.int .i64) (w0 := w) w.heap.size rfl (.tmp 131) (.tmp 133) 22 3 (.int .i64 0) 8 rfl Try.underlying22 info3 rfl (by decide) (by omega) (.slice Ao43 x13_7.length co43) x13_7 x15_7 [.int .i64 x15_7] (fun k_ => some k_ ≠ (v106 : Value).ownBlock ∧ some k_ ≠ (u14 : Value).ownBlock) (fun _ => False) rfl rfl ?aP (fun _ hk => hk.elim) ?aF ?aO ?aB ?aS ?aL ?_; (case aP => exact rfl); (case aB => exact (by repeat (first | (with_reducible first | exact HB.out | apply below_alloc | apply pw_below_drewN | apply below_drew1) | exact HB.out))); (case aF => exact (fun k_ hk => ⟨Kd.fresh' (Kd.R_lt (by (with_reducible repeat (first | apply Kd.R_alloc | apply Kd.R_drewN | apply Kd.R_drew)); exact HO_7.out)) k_ hk, Kd.fresh' (Kd.R_lt (by (with_reducible repeat (first | apply Kd.R_alloc | apply Kd.R_drewN | apply Kd.R_drew)); exact HO_14.out)) k_ hk⟩)); (case aO => exact (by (with_reducible repeat (first | apply Kd.Q_alloc | apply Kd.Q_drewN | apply Kd.Q_drew)); exact HO_13.out)); (case aS => exact (below_size (by repeat (first | (with_reducible first | exact HB.out | apply below_alloc | apply pw_below_drewN | apply below_drew1) | exact HB.out)))); (case aL => have := LMc42.out; omega); intro v116 w44 ho hb hg hat; rw [← Ny115.out] at ho; have n0_ := Aside0.mk (Kd.R_after (ok := (fun k_ => some k_ ≠ (u14 : Value).ownBlock)) (by (with_reducible repeat (first | apply Kd.R_alloc | apply Kd.R_drewN | apply Kd.R_drew)); exact Kd.R_mono HO_7.out (fun _ hk => ⟨hk.2, hk.1⟩)) hg hat); have n1_ := Aside0.mk (Kd.R_after (ok := (fun k_ => some k_ ≠ (v106 : Value).ownBlock)) (by (with_reducible repeat (first | apply Kd.R_alloc | apply Kd.R_drewN | apply Kd.R_drew)); exact HO_14.out) hg hat); have n2_ := Aside0.mk (hb); have n3_ := Aside0.mk (ho); clear HO_7; clear HO_14; clear HB; clear HO_13; have HO_7 := n0_; have HO_14 := n1_; have HB := n2_; have HO117 := n3_; clear n0_ n1_ n2_ n3_; clear ho hb hg hat))
                                                  go_roundg kj36
                                                  case measure => have := HJ4.out; have := HK2.out; have := HK3.out; have := HJ13.out; have := HK5.out; have := HJ33.out; have := HK7.out; have := HJ36.out; omega
                                                  case rel => exact ⟨(y115), (wrap64 (x15_7 + 1)), (x16_7), (wrap64 (x18_7 + 1)), (by first | rfl | (simp; done) | (simp [*]; done)), (by first | rfl | (simp; done) | (simp [*]; done)), (by first | rfl | (simp; done) | (simp [*]; done)), H', ⟨by have := HJ4.out; have := HK2.out; have := HK3.out; have := HJ13.out; have := HK5.out; have := HJ33.out; have := HK7.out; have := HJ36.out; omega⟩, ⟨by (with_reducible repeat (first | apply Kd.R_alloc | apply Kd.R_drewN | apply Kd.R_drew)); exact Kd.R_mono HO_7.out (fun _ hk => ⟨hk.2, hk.1⟩)⟩, ⟨by (with_reducible repeat (first | apply Kd.Q_alloc | apply Kd.Q_drewN | apply Kd.Q_drew)); exact HO117.out⟩, ⟨by (with_reducible repeat (first | apply Kd.R_alloc | apply Kd.R_drewN | apply Kd.R_drew)); exact HO_14.out⟩, ⟨by repeat (first | (with_reducible first | exact HB.out | apply below_alloc | apply pw_below_drewN | apply below_drew1) | exact HB.out)⟩⟩
                                                · rw [if_neg c42] at H
                                                  exact absurd H (by simp)
                                              · rw [if_neg c41] at H
                                                have c41b0 : decide ((x13_7.length : Int) < a0) = false := decide_eq_false c41
                                                clear c41
                                                have H' := Aside0.mk H
                                                clear H
                                                obtain ⟨Ao45, co45, eo45, _⟩ := Kd.Q_slice HO_13.out
                                                subst eo45
                                                go_wp2
                                                go_roundg kj36
                                                case measure => have := HJ4.out; have := HK2.out; have := HK3.out; have := HJ13.out; have := HK5.out; have := HJ33.out; have := HK7.out; have := HJ36.out; omega
                                                case rel => exact ⟨(x13_7), (wrap64 (x15_7 + 1)), (wrap64 (x16_7 + 1)), (wrap64 (x18_7 + 1)), (by first | rfl | (simp; done) | (simp [*]; done)), (by first | rfl | (simp; done) | (simp [*]; done)), (by first | rfl | (simp; done) | (simp [*]; done)), H', ⟨by have := HJ4.out; have := HK2.out; have := HK3.out; have := HJ13.out; have := HK5.out; have := HJ33.out; have := HK7.out; have := HJ36.out; omega⟩, ⟨by (with_reducible repeat (first | apply Kd.R_alloc | apply Kd.R_drewN | apply Kd.R_drew)); exact HO_7.out⟩, ⟨by (with_reducible repeat (first | apply Kd.Q_alloc | apply Kd.Q_drewN | apply Kd.Q_drew)); exact HO_13.out⟩, ⟨by (with_reducible repeat (first | apply Kd.R_alloc | apply Kd.R_drewN | apply Kd.R_drew)); exact HO_14.out⟩, ⟨by repeat (first | (with_reducible first | exact HB.out | apply below_alloc | apply pw_below_drewN | apply below_drew1) | exact HB.out)⟩⟩
                                            · replace c40 := Bool.eq_false_iff.mpr c40
                                              subst c40
                                              have H1 : (bolterlaw34_FeedThrough.l4 kj36 a0 l1 l2 t103 t104 t105 x13_7 x14_5 x15_7 x16_7 x17_5 0) = some r := by rw [if_neg (show ¬ (false = true) by decide)] at H; exact H
                                              clear H
                                              have H := H1
                                              clear H1
                                              have H' := Aside0.mk H
                                              clear H
                                              go_wp2
                                              go_loopg [13, 14, 19] kj36 (fun kq v13 v14 v19 w' => ∃ (x13_9 : List Int) (x14_9 : List Int) (x19_9 : Int), v19 = .int .i64 x19_9 ∧ Aside0 (bolterlaw34_FeedThrough.l4 kq a0 l1 l2 t103 t104 t105 x13_9 x14_9 x15_7 x16_7 x17_5 x19_9 = some r) ∧ Aside0 (kq ≤ kj36) ∧ Aside0 (Kd.R (Kd.int .i64) 3 w' w.heap.size (fun k_ => some k_ ≠ (v13 : Value).ownBlock ∧ some k_ ≠ (v14 : Value).ownBlock) v106 t103) ∧ Aside0 (Kd.Q (Kd.int .i64) 3 w' w.heap.size (fun k_ => some k_ ≠ (v106 : Value).ownBlock ∧ some k_ ≠ (v14 : Value).ownBlock) v13 x13_9) ∧ Aside0 (Kd.R (Kd.int .i64) 3 w' w.heap.size (fun k_ => some k_ ≠ (v106 : Value).ownBlock ∧ some k_ ≠ (v13 : Value).ownBlock) v14 x14_9) ∧ Aside0 (Below w.heap.size w w'))
                                              case atStart => exact ⟨(x13_7), (x14_5), (0), (by first | rfl | (simp; done) | (simp [*]; done)), H', ⟨Nat.le_refl _⟩, ⟨by (with_reducible repeat (first | apply Kd.R_alloc | apply Kd.R_drewN | apply Kd.R_drew)); exact HO_7.out⟩, ⟨by (with_reducible repeat (first | apply Kd.Q_alloc | apply Kd.Q_drewN | apply Kd.Q_drew)); exact HO_13.out⟩, ⟨by (with_reducible repeat (first | apply Kd.R_alloc | apply Kd.R_drewN | apply Kd.R_drew)); exact HO_14.out⟩, ⟨by repeat (first | (with_reducible first | exact HB.out | apply below_alloc | apply pw_below_drewN | apply below_drew1) | exact HB.out)⟩⟩
                                              case round =>
                                                clear H'
                                                try clear c1
                                                try clear p1
                                                try clear q1
                                                try clear hx1
                                                try clear c2
                                                try clear p2
                                                try clear c3
                                                try clear c4
                                                try clear c6
                                                try clear p6
                                                try clear c7
                                                try clear c7b0
                                                try clear c7b1
                                                try clear c8
                                                try clear c8b0
                                                try clear c9
                                                try clear c10
                                                try clear c10b0
                                                try clear p10
                                                try clear q10
                                                try clear hx10
                                                try clear c11
                                                try clear c11b0
                                                try clear p11
                                                try clear q11
                                                try clear hx11
                                                try clear c12
                                                try clear c13
                                                try clear c13b0
                                                try clear c15
                                                try clear c15b0
                                                try clear c16
                                                try clear c17
                                                try clear c17b0
                                                try clear c17b1
                                                try clear c18
                                                try clear c18b0
                                                try clear c18b1
                                                try clear c18b2
                                                try clear c19
                                                try clear c19b0
                                                try clear c19b1
                                                try clear c25
                                                try clear c26
                                                try clear c26b0
                                                try clear c26b1
                                                try clear c27
                                                try clear c27b0
                                                try clear c27b1
                                                try clear c27b2
                                                try clear c28
                                                try clear c28b0
                                                try clear c28b1
                                                try clear c35
                                                try clear c35b0
                                                try clear c36
                                                try clear c38
                                                try clear c38b0
                                                try clear c39
                                                try clear c39b0
                                                try clear c40
                                                try clear c41
                                                try clear c41b0
                                                try clear c42
                                                try clear hx108_0
                                                try clear hx109_0
                                                try clear hx114_0
                                                try clear p1
                                                try clear p10
                                                try clear p108
                                                try clear p109
                                                try clear p11
                                                try clear p114
                                                try clear p2
                                                try clear p6
                                                try clear q1
                                                try clear q10
                                                try clear q108
                                                try clear q109
                                                try clear q11
                                                try clear q114
                                                obtain ⟨x13_9, x14_9, x19_9, rfl, HA, HK9, HO_7, HO_13, HO_14, HB⟩ := hrel
                                                cases gk with
                                                | zero => exact absurd HA.out (by simp [bolterlaw34_FeedThrough.l4])
                                                | succ k9 =>
                                                  have H := HA.out
                                                  clear HA
                                                  simp only [bolterlaw34_FeedThrough.l4] at H
                                                  by_cases c46 : x17_5 < (l2.length : Int)
                                                  · rw [if_pos c46] at H
                                                    have c46b0 : decide (x17_5 < (l2.length : Int)) = true := decide_eq_true c46
                                                    clear c46
                                                    by_cases c47 : 0 ≤ x17_5
                                                    · rw [if_pos c47] at H
                                                      have c47b0 : decide (0 ≤ x17_5) = true := decide_eq_true c47
                                                      clear c47
                                                      by_cases c48 : x19_9 < (rd l2 x17_5)
                                                      · rw [if_pos c48] at H
                                                        have c48b0 : decide (x19_9 < (rd l2 x17_5)) = true := decide_eq_true c48
                                                        clear c48
                                                        by_cases c49 : (x13_9.length : Int) > 0
                                                        · rw [if_pos c49] at H
                                                          have c49b0 : decide (0 < (x13_9.length : Int)) = true := decide_eq_true c49
                                                          have c49b1 : decide (0 < x13_9.length) = true := decide_eq_true (by omega)
                                                          clear c49
                                                          by_cases c50 : 0 < (x13_9.length : Int)
                                                          · rw [if_pos c50] at H
                                                            have c50b0 : decide (0 < (x13_9.length : Int)) = true := decide_eq_true c50
                                                            have c50b1 : decide (0 < x13_9.length) = true := decide_eq_true (by omega)
                                                            clear c50
                                                            by_cases c51 : x14_9.length < 17592186044416
                                                            · rw [if_pos c51] at H
                                                              have LMc51 := Aside0.mk c51
                                                              clear c51
                                                              obtain ⟨y120, hy120⟩ : ∃ y_ : List Int, y_ = (x14_9 ++ [rd x13_9 0]) := ⟨_, rfl⟩
                                                              replace H : (if 1 ≤ (x13_9.length : Int) then (bolterlaw34_FeedThrough.l4 k9 a0 l1 l2 t103 t104 t105 (x13_9.drop (1 : Int).toNat) y120 x15_7 x16_7 x17_5 (wrap64 (x19_9 + 1))) else (none)) = some r := by first | (rw [hy120]; with_reducible exact H) | (have H2_ := (Option.bind_some _ _).symm.trans H; rw [hy120]; with_reducible exact H2_) | (have H2_ := (Option.bind_some _ _).symm.trans H; with_reducible exact H2_) | with_reducible exact H | (rw [hy120]; exact H) | exact H
                                                              have Ny120 := Aside0.mk hy120
                                                              clear hy120
                                                              by_cases c52 : 1 ≤ (x13_9.length : Int)
                                                              · rw [if_pos c52] at H
                                                                have c52b0 := eq_true c52
                                                                have c52b1 : decide (1 ≤ (x13_9.length : Int)) = true := decide_eq_true c52
                                                                clear c52
                                                                obtain ⟨y123, hy123⟩ : ∃ y_ : List Int, y_ = (x13_9.drop (1 : Int).toNat) := ⟨_, rfl⟩
                                                                replace H : (bolterlaw34_FeedThrough.l4 k9 a0 l1 l2 t103 t104 t105 y123 y120 x15_7 x16_7 x17_5 (wrap64 (x19_9 + 1))) = some r := by first | (rw [hy123]; with_reducible exact H) | (have H2_ := (Option.bind_some _ _).symm.trans H; rw [hy123]; with_reducible exact H2_) | (have H2_ := (Option.bind_some _ _).symm.trans H; with_reducible exact H2_) | with_reducible exact H | (rw [hy123]; exact H) | exact H
                                                                have Ny123 := Aside0.mk hy123
                                                                clear hy123
                                                                have H' := Aside0.mk H
                                                                clear H
                                                                have p118 : 0 ≤ (x17_5 : Int) := of_decide_eq_true (by first | (with_reducible assumption) | assumption)
                                                                have q118 : x17_5 < (l2.length : Int) := of_decide_eq_true (by first | (with_reducible assumption) | assumption)
                                                                obtain ⟨ad118, e118, hx118_0⟩ := Kd.at_int HR2.out x17_5 p118 q118
                                                                cases e118
                                                                replace hx118_0 := (HB.out.cell (World.block_lt_of_cell? w _ hx118_0)).trans hx118_0
                                                                replace p118 := eq_true p118
                                                                replace q118 := eq_true q118
                                                                obtain ⟨Ao53, co53, eo53, _⟩ := Kd.Q_slice HO_13.out
                                                                subst eo53
                                                                have p119 : 0 ≤ (0 : Int) := (by omega)
                                                                have q119 : 0 < (x13_9.length : Int) := of_decide_eq_true (by first | (with_reducible assumption) | assumption)
                                                                obtain ⟨ad119, e119, hx119_0⟩ := Kd.at_int (Kd.Q_reads' HO_13.out).2.2 0 p119 q119
                                                                cases e119
                                                                have qi119 : (0 < x13_9.length) = True := eq_true (by omega)
                                                                (try rw [show ((0 : Int)).toNat = 0 from rfl] at hx119_0)
                                                                (try rw [Addr.add_zero'] at hx119_0)
                                                                replace p119 := eq_true p119
                                                                replace q119 := eq_true q119
                                                                go_wp2_with (first | ((with_reducible refine gate_builtin (b := .append) (xs := #[.tmp 158, .tmp 162]) rfl ?_); (try (refine gate_guard (by rfl) ?_; dsimp only)); at_builtin; refine Kd.R_append (Kd.int .i64) (w0 := w) w.heap.size rfl (.tmp 158) (.tmp 162) 22 3 (.int .i64 0) 8 rfl Try.underlying22 info3 rfl (by decide) (by omega) u14 x14_9 (rd x13_9 0) [.int .i64 (rd x13_9 0)] (fun k_ => some k_ ≠ (v106 : Value).ownBlock ∧ some k_ ≠ (.slice (some ad119) x13_9.length co53 : Value).ownBlock) (fun _ => False) rfl rfl ?aP (fun _ hk => hk.elim) ?aF ?aO ?aB ?aS ?aL ?_; (case aP => exact rfl); (case aB => exact (by repeat (first | (with_reducible first | exact HB.out | apply below_alloc | apply pw_below_drewN | apply below_drew1) | exact HB.out))); (case aF => exact (fun k_ hk => ⟨Kd.fresh' (Kd.R_lt (by (with_reducible repeat (first | apply Kd.R_alloc | apply Kd.R_drewN | apply Kd.R_drew)); exact HO_7.out)) k_ hk, Kd.fresh' (Kd.Q_lt (by (with_reducible repeat (first | apply Kd.Q_alloc | apply Kd.Q_drewN | apply Kd.Q_drew)); exact HO_13.out)) k_ hk⟩)); (case aO => exact (by (with_reducible repeat (first | apply Kd.R_alloc | apply Kd.R_drewN | apply Kd.R_drew)); exact HO_14.out)); (case aS => exact (below_size (by repeat (first | (with_reducible first | exact HB.out | apply below_alloc | apply pw_below_drewN | apply below_drew1) | exact HB.out)))); (case aL => have := LMc51.out; omega); intro v121 w54 ho hb hg hat; rw [← Ny120.out] at ho; have n0_ := Aside0.mk (Kd.R_after (ok := (fun k_ => some k_ ≠ (.slice (some ad119) x13_9.length co53 : Value).ownBlock)) (by (with_reducible repeat (first | apply Kd.R_alloc | apply Kd.R_drewN | apply Kd.R_drew)); exact HO_7.out) hg hat); have n1_ := Aside0.mk (Kd.Q_after (ok := (fun k_ => some k_ ≠ (v106 : Value).ownBlock)) (by (with_reducible repeat (first | apply Kd.Q_alloc | apply Kd.Q_drewN | apply Kd.Q_drew)); exact HO_13.out) hg hat); have n2_ := Aside0.mk (hb); have n3_ := Aside0.mk (ho); clear HO_7; clear HO_13; clear HB; clear HO_14; have HO_7 := n0_; have HO_13 := n1_; have HB := n2_; have HO122 := n3_; clear n0_ n1_ n2_ n3_; clear ho hb hg hat; have q55 : (1 : Int) ≤ ((x13_9.length : Int) : Int) := of_decide_eq_true (by first | (with_reducible assumption) | assumption); obtain ⟨i055, hi055, _, hsz55, _⟩ := info_parts info3; have hcut55 := cut_from (P := Try.prog) 22 3 .i64 Try.underlying22 hi055 1 hsz55 (some ad119) x13_9.length co53 1 (by omega) q55; have hr55 := Kd.Q_drop (k := (1 : Int).toNat) HO_13.out (by omega); obtain ⟨A55, hA55⟩ : ∃ A1, A1 = (if co53 = (1 : Int).toNat then (some ad119) else ((some ad119) : Option Addr).map (·.add ((1 : Int).toNat * 1))) := ⟨_, rfl⟩; obtain ⟨c55, hc55⟩ : ∃ c1, c1 = co53 - (1 : Int).toNat := ⟨_, rfl⟩; have hy55 : y123.length = x13_9.length - (1 : Int).toNat := (by rw [Ny123.out, List.length_drop]); rw [← Ny123.out] at hr55; rw [← hy55, ← hA55, ← hc55] at hcut55; replace hr55 : Kd.Q (Kd.int .i64) 3 w54 w.heap.size (fun k_ => some k_ ≠ (v106 : Value).ownBlock ∧ some k_ ≠ (v121 : Value).ownBlock) (.slice A55 y123.length c55) y123 := (by rw [hA55, hc55, hy55]; exact hr55); have HE55 : Aside0 ((Value.slice A55 y123.length c55).ownBlock = (.slice (some ad119) x13_9.length co53 : Value).ownBlock) := ⟨by rw [hA55]; split <;> (cases ((some ad119) : Option Addr) <;> rfl)⟩; clear hy55 hi055 hsz55 HO_13 hA55 hc55; have HO125 := Aside0.mk hr55; clear hr55; replace q55 := eq_true q55; have n_ := Aside0.mk (Kd.R_mono (ok' := fun k_ => (some k_ ≠ (.slice A55 y123.length c55 : Value).ownBlock ∧ some k_ ≠ (v121 : Value).ownBlock)) HO_7.out (fun k_ hk => ⟨(by rw [HE55.out]; exact hk.1), hk.2⟩)); clear HO_7; have HO_7 := n_; clear n_; have n_ := Aside0.mk (Kd.R_mono (ok' := fun k_ => (some k_ ≠ (v106 : Value).ownBlock ∧ some k_ ≠ (.slice A55 y123.length c55 : Value).ownBlock)) HO122.out (fun k_ hk => ⟨hk.1, (by rw [HE55.out]; exact hk.2)⟩)); clear HO122; have HO122 := n_; clear n_))
                                                                go_roundg k9
                                                                case measure => have := HJ4.out; have := HK2.out; have := HK3.out; have := HJ13.out; have := HK5.out; have := HJ33.out; have := HK7.out; have := HJ36.out; have := HK9.out; omega
                                                                case rel => exact ⟨(y123), (y120), (wrap64 (x19_9 + 1)), (by first | rfl | (simp; done) | (simp [*]; done)), H', ⟨by have := HJ4.out; have := HK2.out; have := HK3.out; have := HJ13.out; have := HK5.out; have := HJ33.out; have := HK7.out; have := HJ36.out; have := HK9.out; omega⟩, ⟨by (with_reducible repeat (first | apply Kd.R_alloc | apply Kd.R_drewN | apply Kd.R_drew)); exact HO_7.out⟩, ⟨by (with_reducible repeat (first | apply Kd.Q_alloc | apply Kd.Q_drewN | apply Kd.Q_drew)); exact HO125.out⟩, ⟨by (with_reducible repeat (first | apply Kd.R_alloc | apply Kd.R_drewN | apply Kd.R_drew)); exact HO122.out⟩, ⟨by repeat (first | (with_reducible first | exact HB.out | apply below_alloc | apply pw_below_drewN | apply below_drew1) | exact HB.out)⟩⟩
                                                              · rw [if_neg c52] at H
                                                                exact absurd H (by simp)
                                                            · rw [if_neg c51] at H
                                                              exact absurd H (by simp)
                                                          · rw [if_neg c50] at H
                                                            exact absurd H (by simp)
                                                        · rw [if_neg c49] at H
                                                          have c49b0 : decide (0 < (x13_9.length : Int)) = false := decide_eq_false c49
                                                          have c49b1 : decide (0 < x13_9.length) = false := decide_eq_false (by omega)
                                                          clear c49
                                                          have H' := Aside0.mk H
                                                          clear H
                                                          have p118 : 0 ≤ (x17_5 : Int) := of_decide_eq_true (by first | (with_reducible assumption) | assumption)
                                                          have q118 : x17_5 < (l2.length : Int) := of_decide_eq_true (by first | (with_reducible assumption) | assumption)
                                                          obtain ⟨ad118, e118, hx118_0⟩ := Kd.at_int HR2.out x17_5 p118 q118
                                                          cases e118
                                                          replace hx118_0 := (HB.out.cell (World.block_lt_of_cell? w _ hx118_0)).trans hx118_0
                                                          replace p118 := eq_true p118
                                                          replace q118 := eq_true q118
                                                          obtain ⟨Ao56, co56, eo56, _⟩ := Kd.Q_slice HO_13.out
                                                          subst eo56
                                                          go_wp2
                                                          go_roundg k9
                                                          case measure => have := HJ4.out; have := HK2.out; have := HK3.out; have := HJ13.out; have := HK5.out; have := HJ33.out; have := HK7.out; have := HJ36.out; have := HK9.out; omega
                                                          case rel => exact ⟨(x13_9), (x14_9), (x15_7), (x16_7), (wrap64 (x17_5 + 1)), (by first | rfl | (simp; done) | (simp [*]; done)), (by first | rfl | (simp; done) | (simp [*]; done)), (by first | rfl | (simp; done) | (simp [*]; done)), H', ⟨by have := HJ4.out; have := HK2.out; have := HK3.out; have := HJ13.out; have := HK5.out; have := HJ33.out; have := HK7.out; have := HJ36.out; have := HK9.out; omega⟩, ⟨by (with_reducible repeat (first | apply Kd.R_alloc | apply Kd.R_drewN | apply Kd.R_drew)); exact HO_7.out⟩, ⟨by (with_reducible repeat (first | apply Kd.Q_alloc | apply Kd.Q_drewN | apply Kd.Q_drew)); exact HO_13.out⟩, ⟨by (with_reducible repeat (first | apply Kd.R_alloc | apply Kd.R_drewN | apply Kd.R_drew)); exact HO_14.out⟩, ⟨by repeat (first | (with_reducible first | exact HB.out | apply below_alloc | apply pw_below_drewN | apply below_drew1) | exact HB.out)⟩⟩
                                                      · rw [if_neg c48] at H
                                                        have c48b0 : decide (x19_9 < (rd l2 x17_5)) = false := decide_eq_false c48
                                                        clear c48
                                                        have H' := Aside0.mk H
                                                        clear H
                                                        have p118 : 0 ≤ (x17_5 : Int) := of_decide_eq_true (by first | (with_reducible assumption) | assumption)
                                                        have q118 : x17_5 < (l2.length : Int) := of_decide_eq_true (by first | (with_reducible assumption) | assumption)
                                                        obtain ⟨ad118, e118, hx118_0⟩ := Kd.at_int HR2.out x17_5 p118 q118
                                                        cases e118
                                                        replace hx118_0 := (HB.out.cell (World.block_lt_of_cell? w _ hx118_0)).trans hx118_0
                                                        replace p118 := eq_true p118
                                                        replace q118 := eq_true q118
                                                        go_wp2
                                                        go_roundg k9
                                                        case measure => have := HJ4.out; have := HK2.out; have := HK3.out; have := HJ13.out; have := HK5.out; have := HJ33.out; have := HK7.out; have := HJ36.out; have := HK9.out; omega
                                                        case rel => exact ⟨(x13_9), (x14_9), (x15_7), (x16_7), (wrap64 (x17_5 + 1)), (by first | rfl | (simp; done) | (simp [*]; done)), (by first | rfl | (simp; done) | (simp [*]; done)), (by first | rfl | (simp; done) | (simp [*]; done)), H', ⟨by have := HJ4.out; have := HK2.out; have := HK3.out; have := HJ13.out; have := HK5.out; have := HJ33.out; have := HK7.out; have := HJ36.out; have := HK9.out; omega⟩, ⟨by (with_reducible repeat (first | apply Kd.R_alloc | apply Kd.R_drewN | apply Kd.R_drew)); exact HO_7.out⟩, ⟨by (with_reducible repeat (first | apply Kd.Q_alloc | apply Kd.Q_drewN | apply Kd.Q_drew)); exact HO_13.out⟩, ⟨by (with_reducible repeat (first | apply Kd.R_alloc | apply Kd.R_drewN | apply Kd.R_drew)); exact HO_14.out⟩, ⟨by repeat (first | (with_reducible first | exact HB.out | apply below_alloc | apply pw_below_drewN | apply below_drew1) | exact HB.out)⟩⟩
                                                    · rw [if_neg c47] at H
                                                      exact absurd H (by simp)
                                                  · rw [if_neg c46] at H
                                                    have c46b0 : decide (x17_5 < (l2.length : Int)) = false := decide_eq_false c46
                                                    clear c46
                                                    have H' := Aside0.mk H
                                                    clear H
                                                    go_wp2
                                                    go_roundg k9
                                                    case measure => have := HJ4.out; have := HK2.out; have := HK3.out; have := HJ13.out; have := HK5.out; have := HJ33.out; have := HK7.out; have := HJ36.out; have := HK9.out; omega
                                                    case rel => exact ⟨(x13_9), (x14_9), (x15_7), (x16_7), (wrap64 (x17_5 + 1)), (by first | rfl | (simp; done) | (simp [*]; done)), (by first | rfl | (simp; done) | (simp [*]; done)), (by first | rfl | (simp; done) | (simp [*]; done)), H', ⟨by have := HJ4.out; have := HK2.out; have := HK3.out; have := HJ13.out; have := HK5.out; have := HJ33.out; have := HK7.out; have := HJ36.out; have := HK9.out; omega⟩, ⟨by (with_reducible repeat (first | apply Kd.R_alloc | apply Kd.R_drewN | apply Kd.R_drew)); exact HO_7.out⟩, ⟨by (with_reducible repeat (first | apply Kd.Q_alloc | apply Kd.Q_drewN | apply Kd.Q_drew)); exact HO_13.out⟩, ⟨by (with_reducible repeat (first | apply Kd.R_alloc | apply Kd.R_drewN | apply Kd.R_drew)); exact HO_14.out⟩, ⟨by repeat (first | (with_reducible first | exact HB.out | apply below_alloc | apply pw_below_drewN | apply below_drew1) | exact HB.out)⟩⟩
                                  · replace c36 := Bool.eq_false_iff.mpr c36
                                    subst c36
                                    have H1 : (if t105 = 0 then ((bolterplain_SameInts.f kj33 t103 x14_5).bind fun t112 => (if t112 = true then (if t104 = x16_5 then ((bolterlaw34_alive.f).bind fun t113 => (some t113)) else (some false)) else (some false))) else (some false)) = some r := by rw [if_neg (show ¬ (false = true) by decide)] at H; exact H
                                    clear H
                                    have H := H1
                                    clear H1
                                    by_cases c57 : t105 = 0
                                    · rw [if_pos c57] at H
                                      have c57b0 : (t105 == 0) = true := beq_iff_eq.mpr c57
                                      have c57b1 : (t105 != 0) = false := bne_eq_false_iff_eq.mpr c57
                                      clear c57
                                      replace H := Option.bind_eq_some_iff.mp H
                                      obtain ⟨t112, A580, H⟩ := H
                                      replace H : (if t112 = true then (if t104 = x16_5 then ((bolterlaw34_alive.f).bind fun t113 => (some t113)) else (some false)) else (some false)) = some r := H
                                      have A58 := Aside0.mk A580
                                      clear A580
                                      by_cases c59 : t112 = true
                                      · subst c59
                                        have H1 : (if t104 = x16_5 then ((bolterlaw34_alive.f).bind fun t113 => (some t113)) else (some false)) = some r := by rw [if_pos rfl] at H; exact H
                                        clear H
                                        have H := H1
                                        clear H1
                                        by_cases c60 : t104 = x16_5
                                        · rw [if_pos c60] at H
                                          have c60b0 : (t104 == x16_5) = true := beq_iff_eq.mpr c60
                                          have c60b1 : (t104 != x16_5) = false := bne_eq_false_iff_eq.mpr c60
                                          clear c60
                                          replace H := Option.bind_eq_some_iff.mp H
                                          obtain ⟨t113, A610, H⟩ := H
                                          replace H : (some t113) = some r := H
                                          have A61 := Aside0.mk A610
                                          clear A610
                                          obtain rfl := Option.some.inj H
                                          obtain ⟨Ao62, co62, eo62⟩ := Kd.R_slice HO_7.out
                                          subst eo62
                                          obtain ⟨Ao63, co63, eo63⟩ := Kd.R_slice HO_14.out
                                          subst eo63
                                          go_wp2_with (first | (go_at_call 19; (with_reducible refine (bolterplain_SameInts.calls kj33 _ _ t103 _ _ x14_5 true _ ?side1 ?side2 ?side3 ?side4 A58.out).mono ?_); (case side1 => repeat (first | exact (Kd.R_reads' HO_7.out).2.2 | (with_reducible refine Kd.C_alloc ?_ _) | (with_reducible refine Kd.C_drewN ?_ _) | (with_reducible refine Kd.C_drew ?_))); (case side2 => exact (Kd.R_reads' HO_7.out).2.1); (case side3 => repeat (first | exact (Kd.R_reads' HO_14.out).2.2 | (with_reducible refine Kd.C_alloc ?_ _) | (with_reducible refine Kd.C_drewN ?_ _) | (with_reducible refine Kd.C_drew ?_))); (case side4 => exact (Kd.R_reads' HO_14.out).2.1); rintro e w' ⟨rfl, ⟨nd, rfl⟩⟩) | (go_at_call 7; (with_reducible refine (bolterlaw34_alive.calls  t113 _ A61.out).mono ?_); rintro e w64 ⟨rfl, hb⟩; have n0_ := Aside0.mk (Kd.R_below (by (with_reducible repeat (first | apply Kd.R_alloc | apply Kd.R_drewN | apply Kd.R_drew)); exact HO_7.out) hb); have n1_ := Aside0.mk (Kd.Q_below (by (with_reducible repeat (first | apply Kd.Q_alloc | apply Kd.Q_drewN | apply Kd.Q_drew)); exact HO_13.out) hb); have n2_ := Aside0.mk (Kd.R_below (by (with_reducible repeat (first | apply Kd.R_alloc | apply Kd.R_drewN | apply Kd.R_drew)); exact HO_14.out) hb); have n3_ := Aside0.mk (below_step (by repeat (first | (with_reducible first | exact HB.out | apply below_alloc | apply pw_below_drewN | apply below_drew1) | exact HB.out)) hb); clear HO_7; clear HO_13; clear HO_14; clear HB; have HO_7 := n0_; have HO_13 := n1_; have HO_14 := n2_; have HB := n3_; clear n0_ n1_ n2_ n3_; (try clear hb); (try clear hb2); (try clear hk); (try clear hi)))
                                          go_ret
                                          exact ⟨by first | rfl | (simp [errW_none, errW_some] <;> rfl) | (simp [*, errW_none, errW_some] <;> rfl), by repeat (first | (with_reducible first | exact HB.out | apply below_alloc | apply pw_below_drewN | apply below_drew1) | exact HB.out)⟩
                                        · rw [if_neg c60] at H
                                          have c60b0 : (t104 == x16_5) = false := beq_eq_false_iff_ne.mpr c60
                                          have c60b1 : (t104 != x16_5) = true := bne_iff_ne.mpr c60
                                          obtain rfl := Option.some.inj H
                                          obtain ⟨Ao65, co65, eo65⟩ := Kd.R_slice HO_7.out
                                          subst eo65
                                          obtain ⟨Ao66, co66, eo66⟩ := Kd.R_slice HO_14.out
                                          subst eo66
                                          go_wp2_with (first | (go_at_call 19; (with_reducible refine (bolterplain_SameInts.calls kj33 _ _ t103 _ _ x14_5 true _ ?side1 ?side2 ?side3 ?side4 A58.out).mono ?_); (case side1 => repeat (first | exact (Kd.R_reads' HO_7.out).2.2 | (with_reducible refine Kd.C_alloc ?_ _) | (with_reducible refine Kd.C_drewN ?_ _) | (with_reducible refine Kd.C_drew ?_))); (case side2 => exact (Kd.R_reads' HO_7.out).2.1); (case side3 => repeat (first | exact (Kd.R_reads' HO_14.out).2.2 | (with_reducible refine Kd.C_alloc ?_ _) | (with_reducible refine Kd.C_drewN ?_ _) | (with_reducible refine Kd.C_drew ?_))); (case side4 => exact (Kd.R_reads' HO_14.out).2.1); rintro e w' ⟨rfl, ⟨nd, rfl⟩⟩))
                                          go_ret
                                          exact ⟨by first | rfl | (simp [errW_none, errW_some] <;> rfl) | (simp [*, errW_none, errW_some] <;> rfl), by repeat (first | (with_reducible first | exact HB.out | apply below_alloc | apply pw_below_drewN | apply below_drew1) | exact HB.out)⟩
                                      · replace c59 := Bool.eq_false_iff.mpr c59
                                        subst c59
                                        have H1 : (some false) = some r := by rw [if_neg (show ¬ (false = true) by decide)] at H; exact H
                                        clear H
                                        have H := H1
                                        clear H1
                                        obtain rfl := Option.some.inj H
                                        obtain ⟨Ao67, co67, eo67⟩ := Kd.R_slice HO_7.out
                                        subst eo67
                                        obtain ⟨Ao68, co68, eo68⟩ := Kd.R_slice HO_14.out
                                        subst eo68
                                        go_wp2_with (first | (go_at_call 19; (with_reducible refine (bolterplain_SameInts.calls kj33 _ _ t103 _ _ x14_5 false _ ?side1 ?side2 ?side3 ?side4 A58.out).mono ?_); (case side1 => repeat (first | exact (Kd.R_reads' HO_7.out).2.2 | (with_reducible refine Kd.C_alloc ?_ _) | (with_reducible refine Kd.C_drewN ?_ _) | (with_reducible refine Kd.C_drew ?_))); (case side2 => exact (Kd.R_reads' HO_7.out).2.1); (case side3 => repeat (first | exact (Kd.R_reads' HO_14.out).2.2 | (with_reducible refine Kd.C_alloc ?_ _) | (with_reducible refine Kd.C_drewN ?_ _) | (with_reducible refine Kd.C_drew ?_))); (case side4 => exact (Kd.R_reads' HO_14.out).2.1); rintro e w' ⟨rfl, ⟨nd, rfl⟩⟩))
                                        go_ret
                                        exact ⟨by first | rfl | (simp [errW_none, errW_some] <;> rfl) | (simp [*, errW_none, errW_some] <;> rfl), by repeat (first | (with_reducible first | exact HB.out | apply below_alloc | apply pw_below_drewN | apply below_drew1) | exact HB.out)⟩
                                    · rw [if_neg c57] at H
                                      have c57b0 : (t105 == 0) = false := beq_eq_false_iff_ne.mpr c57
                                      have c57b1 : (t105 != 0) = true := bne_iff_ne.mpr c57
                                      obtain rfl := Option.some.inj H
                                      go_wp2
                                      go_ret
                                      exact ⟨by first | rfl | (simp [errW_none, errW_some] <;> rfl) | (simp [*, errW_none, errW_some] <;> rfl), by repeat (first | (with_reducible first | exact HB.out | apply below_alloc | apply pw_below_drewN | apply below_drew1) | exact HB.out)⟩

/-- THE ONE PURE STATEMENT of bolterlaw34_FeedThrough: yours. -/
def bolterlaw34_FeedThrough.Pure : Prop := ∀ (a0 : Int) (l1 : List Int) (l2 : List Int), (Lit.int .i64 a0).wf = true → l1.length ≤ maxLen → l1.length * 8 ≤ 140737488351232 → (∀ x ∈ l1, (Lit.int .i64 x).wf = true) → l2.length ≤ maxLen → l2.length * 8 ≤ 140737488351232 → (∀ x ∈ l2, (Lit.int .i64 x).wf = true) → ∃ k, bolterlaw34_FeedThrough.f k a0 l1 l2 = some true
theorem bolterlaw34_FeedThrough.walk (P : bolterlaw34_FeedThrough.Pure) (a0 : Int) (a1 : Option Addr) (len1 cap1 : Nat) (z1 : List Int) (a2 : Option Addr) (len2 cap2 : Nat) (z2 : List Int) (w : World) (w0 : (Lit.int .i64 a0).wf = true) (w1 : (a1 = none ∧ len1 = 0 ∧ cap1 = 0 ∧ z1 = []) ∨ ∃ x, a1 = some x ∧ len1 ≤ cap1 ∧ cap1 ≤ maxLen ∧ z1.length = cap1 ∧ (∀ i, i < z1.length → w.cell? (x.add i) = some (.int .i64 (z1.getD i 0))) ∧ ∀ n ∈ z1, (Lit.int .i64 n).wf = true) (y1 : len1 * 8 ≤ 140737488351232) (w2 : (a2 = none ∧ len2 = 0 ∧ cap2 = 0 ∧ z2 = []) ∨ ∃ x, a2 = some x ∧ len2 ≤ cap2 ∧ cap2 ≤ maxLen ∧ z2.length = cap2 ∧ (∀ i, i < z2.length → w.cell? (x.add i) = some (.int .i64 (z2.getD i 0))) ∧ ∀ n ∈ z2, (Lit.int .i64 n).wf = true) (y2 : len2 * 8 ≤ 140737488351232) :
    Calls Try.prog 6 #[.int .i64 a0, .slice a1 len1 cap1, .slice a2 len2 cap2] w fun e w' => e = .returned (.bool true) ∧ Below w.heap.size w w' := by
  obtain ⟨l1, rfl, hr1, hm1, hw1, hc1⟩ := ReadsInt.ofRowC w1
  obtain ⟨l2, rfl, hr2, hm2, hw2, hc2⟩ := ReadsInt.ofRowC w2
  obtain ⟨k, h⟩ := P a0 l1 l2 w0 hm1 y1 hw1 hm2 y2 hw2
  refine (bolterlaw34_FeedThrough.calls k a0 _ _ l1 _ _ l2 true w (Kd.C_of_reads (d := (0 : Int)) (h1 := fun _ => rfl) hr1) hc1 (Kd.C_of_reads (d := (0 : Int)) (h1 := fun _ => rfl) hr2) hc2 h).mono ?_
  rintro e w' ⟨rfl, hd⟩
  exact ⟨rfl, hd⟩

end Go.Proofs.Ytdgebcgcabhjoaa.P
