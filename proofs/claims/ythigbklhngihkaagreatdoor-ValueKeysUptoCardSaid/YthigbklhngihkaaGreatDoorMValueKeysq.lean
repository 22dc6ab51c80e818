import Derived.Shelf.SlIter.Nil
import Derived.Shelf.SortM.Plain
import Derived.Shelf.SortM.SortNone
import Derived.Ground.GgzProg
import Derived.Ground.SlgmProg
import Derived.Maps.OwnSet
import Derived.Sort.KeysCollected
import Derived.Sort.Walk0
import Derived.Test.YthigbklhngihkaaGreatDoorMValueKeysp
import Derived.Maps.OwnIn
set_option linter.unusedVariables false
set_option linter.unusedSimpArgs false
set_option maxRecDepth 100000
namespace Go.Proofs.YthigbklhngihkaaGreatDoor.P
open Go.RowKit Go.Proofs.YthigbklhngihkaaGreatDoorW.PrintWords Go.Proofs.YthigbklhngihkaaGreatDoorW.PrintMore Go.Proofs.YthigbklhngihkaaGreatDoorW.PrintLast
def sless (a b : ByteArray) : Bool := Op.bytesLess a.toList b.toList
theorem sless_irr (a : ByteArray) : sless a a = false := bless_irr _
theorem sless_asymm {a b : ByteArray} (h : sless a b = true) : sless b a = false := bless_asymm h
theorem sless_trans {a b c : ByteArray} (h : sless a b = true) (k : sless b c = true) : sless a c = true := bless_trans _ _ _ h k
theorem sless_cases (a b : ByteArray) : sless a b = true ∨ a = b ∨ sless b a = true := by
 rcases bless_cases a.toList b.toList with h | h | h
 · exact .inl h
 · exact .inr (.inl (toL_inj2.1 h))
 · exact .inr (.inr h)
theorem sless_ne {a b : ByteArray} (h : sless a b = true) : a ≠ b := fun e => by subst e; rw [sless_irr] at h; cases h
section
variable {α : Type}
def lkp (k : ByteArray) : List (ByteArray × α) → Option α
 | [] => none
 | p :: r => if p.1 = k then some p.2 else lkp k r
def RisesP (l : List (ByteArray × α)) : Prop := l.Pairwise fun p q => sless p.1 q.1 = true
theorem lkp_none {k : ByteArray} : ∀ {l : List (ByteArray × α)}, (∀ p ∈ l, p.1 ≠ k) → lkp k l = none
 | [], _ => rfl
 | p :: r, h => by
  unfold lkp
  rw [if_neg (h p List.mem_cons_self)]
  exact lkp_none fun q hq => h q (List.mem_cons_of_mem _ hq)
theorem rising_ext : ∀ {l r : List (ByteArray × α)}, RisesP l → RisesP r → (∀ k, lkp k l = lkp k r) → l = r
 | [], [], _, _, _ => rfl
 | [], q :: r, _, _, h => by have := h q.1; simp [lkp] at this
 | p :: l, [], _, _, h => by have := h p.1; simp [lkp] at this
 | p :: l, q :: r, hl, hr, h => by
  have hl2 := List.pairwise_cons.1 hl
  have hr2 := List.pairwise_cons.1 hr
  have e1 : p.1 = q.1 := by
   rcases sless_cases p.1 q.1 with hc | hc | hc
   · exfalso
     have := h p.1
     have h0 : lkp p.1 (q :: r) = none := lkp_none fun z hz => by
      rcases List.mem_cons.1 hz with rfl | hz
      · exact fun e => sless_ne hc e.symm
      · exact fun e => sless_ne (sless_trans hc (hr2.1 z hz)) e.symm
     rw [h0] at this
     simp [lkp] at this
   · exact hc
   · exfalso
     have := h q.1
     have h0 : lkp q.1 (p :: l) = none := lkp_none fun z hz => by
      rcases List.mem_cons.1 hz with rfl | hz
      · exact fun e => sless_ne hc e.symm
      · exact fun e => sless_ne (sless_trans hc (hl2.1 z hz)) e.symm
     rw [h0] at this
     simp [lkp] at this
  have e2 : p.2 = q.2 := by
   have := h p.1
   unfold lkp at this
   rw [if_pos rfl, if_pos e1.symm] at this
   exact Option.some.inj this
  have e3 : l = r := by
   refine rising_ext hl2.2 hr2.2 fun k => ?_
   by_cases hk : p.1 = k
   · subst hk
     rw [lkp_none fun z hz => fun e => sless_ne (hl2.1 z hz) e.symm, lkp_none fun z hz => fun e => sless_ne (hr2.1 z hz) (e1.symm.trans e.symm)]
   · have := h k
     unfold lkp at this
     rwa [if_neg hk, if_neg (fun e => hk (e1.trans e))] at this
  rw [e3]
  exact congrArg (· :: r) (Prod.ext e1 e2)
def withP (k : ByteArray) (x : α) : List (ByteArray × α) → List (ByteArray × α)
 | [] => [(k, x)]
 | p :: r => if sless p.1 k = true then p :: withP k x r else (k, x) :: (p :: r).filter fun q => decide (q.1 ≠ k)
theorem mem_withP {k : ByteArray} {x : α} {q : ByteArray × α} : ∀ {l : List (ByteArray × α)}, q ∈ withP k x l → q = (k, x) ∨ q ∈ l
 | [], h => by simp [withP] at h; exact .inl h
 | p :: r, h => by
  unfold withP at h
  by_cases hp : sless p.1 k = true
  · rw [if_pos hp] at h
    rcases List.mem_cons.1 h with rfl | h
    · exact .inr List.mem_cons_self
    · rcases mem_withP h with h | h
      · exact .inl h
      · exact .inr (List.mem_cons_of_mem _ h)
  · rw [if_neg hp] at h
    rcases List.mem_cons.1 h with h | h
    · exact .inl h
    · exact .inr (List.mem_filter.1 h).1
theorem withP_rises {k : ByteArray} {x : α} : ∀ {l : List (ByteArray × α)}, RisesP l → RisesP (withP k x l)
 | [], _ => by unfold withP RisesP; simp
 | p :: r, h => by
  have h2 := List.pairwise_cons.1 h
  unfold withP
  by_cases hp : sless p.1 k = true
  · rw [if_pos hp]
    refine List.pairwise_cons.2 ⟨fun q hq => ?_, withP_rises h2.2⟩
    rcases mem_withP hq with rfl | hq
    · exact hp
    · exact h2.1 q hq
  · rw [if_neg hp]
    refine List.pairwise_cons.2 ⟨fun q hq => ?_, h.filter _⟩
    obtain ⟨hq, hne⟩ := List.mem_filter.1 hq
    have hne2 : q.1 ≠ k := of_decide_eq_true hne
    have hkp : sless k p.1 = true ∨ p.1 = k := by
     rcases sless_cases p.1 k with h | h | h
     · exact absurd h hp
     · exact .inr h
     · exact .inl h
    show sless k q.1 = true
    rcases List.mem_cons.1 hq with rfl | hq
    · exact hkp.resolve_right hne2
    · rcases hkp with h | h
      · exact sless_trans h (h2.1 q hq)
      · exact h ▸ h2.1 q hq
theorem lkp_filter {k j : ByteArray} : ∀ {l : List (ByteArray × α)}, j ≠ k → lkp j (l.filter fun q => decide (q.1 ≠ k)) = lkp j l
 | [], _ => rfl
 | p :: r, h => by
  by_cases hp : p.1 = k
  · rw [List.filter_cons_of_neg (by simp [hp]), lkp_filter h]
    show _ = lkp j (p :: r)
    unfold lkp
    rw [if_neg (fun e => h (e.symm.trans hp)), ← lkp.eq_def]
  · rw [List.filter_cons_of_pos (by simp [hp])]
    unfold lkp
    rw [lkp_filter h]
theorem lkp_withP {k : ByteArray} {x : α} (j : ByteArray) : ∀ {l : List (ByteArray × α)}, lkp j (withP k x l) = if k = j then some x else lkp j l
 | [] => by unfold withP; simp [lkp]
 | p :: r => by
  unfold withP
  by_cases hp : sless p.1 k = true
  · rw [if_pos hp]
    show (if p.1 = j then some p.2 else lkp j (withP k x r)) = if k = j then some x else if p.1 = j then some p.2 else lkp j r
    rw [lkp_withP j]
    by_cases h1 : p.1 = j
    · rw [if_pos h1, if_pos h1, if_neg (fun e => sless_ne hp (h1.trans e.symm))]
    · rw [if_neg h1, if_neg h1]
  · rw [if_neg hp]
    show (if k = j then some x else lkp j ((p :: r).filter fun q => decide (q.1 ≠ k))) = _
    by_cases h1 : k = j
    · rw [if_pos h1, if_pos h1]
    · rw [if_neg h1, if_neg h1, lkp_filter (fun e => h1 e.symm)]
def wstep (k : ByteArray) (x : α) (s : Bool × List (ByteArray × α)) (p : ByteArray × α) : Bool × List (ByteArray × α) :=
 (s.1 || !sless p.1 k, (if !s.1 && !sless p.1 k then s.2 ++ [(k, x)] else s.2) ++ (if p.1 = k then [] else [p]))
def wUp (k : ByteArray) (x : α) (l : List (ByteArray × α)) (i : Nat) : Bool × List (ByteArray × α) := (l.take i).foldl (wstep k x) (false, [])
theorem withP_len (k : ByteArray) (x : α) : ∀ l : List (ByteArray × α), (withP k x l).length ≤ l.length + 1
 | [] => by simp [withP]
 | p :: r => by
  unfold withP
  by_cases hp : sless p.1 k = true
  · rw [if_pos hp]
    have := withP_len k x r
    simp only [List.length_cons]
    omega
  · rw [if_neg hp]
    have := List.length_filter_le (fun q : ByteArray × α => decide (q.1 ≠ k)) (p :: r)
    simp only [List.length_cons] at *
    omega
def objUp (l : List (ByteArray × α)) (i : Nat) : List (ByteArray × α) := (l.take i).foldl (fun o p => withP p.1 p.2 o) []
theorem objUp_succ (l : List (ByteArray × α)) (i : Nat) (h : i < l.length) : objUp l (i + 1) = withP (l[i]).1 (l[i]).2 (objUp l i) := by
 unfold objUp
 rw [List.take_succ_eq_append_getElem h, List.foldl_append]
 rfl
theorem objUp_rises (l : List (ByteArray × α)) (i : Nat) : i ≤ l.length → RisesP (objUp l i) := by
 induction i with
 | zero => intro _; unfold objUp RisesP; simp
 | succ i ih => intro h; rw [objUp_succ l i (by omega)]; exact withP_rises (ih (by omega))
theorem objUp_len (l : List (ByteArray × α)) (i : Nat) : i ≤ l.length → (objUp l i).length ≤ i := by
 induction i with
 | zero => intro _; unfold objUp; simp
 | succ i ih =>
  intro h
  rw [objUp_succ l i (by omega)]
  have := withP_len (l[i]).1 (l[i]).2 (objUp l i)
  have := ih (by omega)
  omega
def lastUp (l : List (ByteArray × α)) (j : ByteArray) : Nat → Option α
 | 0 => none
 | i + 1 => match l[i]? with
  | some p => if p.1 = j then some p.2 else lastUp l j i
  | none => lastUp l j i
theorem lastUp_succ (l : List (ByteArray × α)) (j : ByteArray) (i : Nat) (h : i < l.length) : lastUp l j (i + 1) = if (l[i]).1 = j then some (l[i]).2 else lastUp l j i := by
 show (match l[i]? with | some p => if p.1 = j then some p.2 else lastUp l j i | none => lastUp l j i) = _
 rw [List.getElem?_eq_getElem h]
theorem lkp_objUp (l : List (ByteArray × α)) (j : ByteArray) (i : Nat) : i ≤ l.length → lkp j (objUp l i) = lastUp l j i := by
 induction i with
 | zero => intro _; unfold objUp lastUp; simp [lkp]
 | succ i ih =>
  intro h
  rw [objUp_succ l i (by omega), lkp_withP, ih (by omega)]
  rw [lastUp_succ l j i (by omega)]
theorem objUp_mem (l : List (ByteArray × α)) (i : Nat) : i ≤ l.length → ∀ p ∈ objUp l i, p ∈ l := by
 induction i with
 | zero => intro _ p hp; unfold objUp at hp; simp at hp
 | succ i ih =>
  intro h p hp
  rw [objUp_succ l i (by omega)] at hp
  rcases mem_withP hp with rfl | hp
  · exact List.getElem_mem _
  · exact ih (by omega) p hp
theorem obj_of_keys (l : List (ByteArray × α)) (ks : List ByteArray) (xs : List α) (hn : ks.length = xs.length) (hr : ks.Pairwise fun a b => sless a b = true)
 (hm : ∀ j, j ∈ ks ↔ ∃ p ∈ l, p.1 = j) (hx : ∀ i (h : i < ks.length) (h2 : i < xs.length), lastUp l ks[i] l.length = some xs[i]) : ks.zip xs = objUp l l.length := by
 have hz : (ks.zip xs).map Prod.fst = ks := List.map_fst_zip (by omega)
 refine rising_ext ?_ (objUp_rises l _ (Nat.le_refl _)) fun j => ?_
 · have := hz ▸ hr
   rwa [List.pairwise_map] at this
 · rw [lkp_objUp l j _ (Nat.le_refl _)]
   by_cases hj : j ∈ ks
   · obtain ⟨i, hi, rfl⟩ := List.mem_iff_getElem.1 hj
     rw [hx i hi (by omega)]
     have go : ∀ (l : List (ByteArray × α)) (n : Nat) (h : n < l.length), RisesP l → lkp (l[n]).1 l = some (l[n]).2 := by
      intro l
      induction l with
      | nil => intro n h; simp at h
      | cons p r ih =>
       intro n h hR
       have h2 := List.pairwise_cons.1 hR
       cases n with
       | zero => simp [lkp]
       | succ n =>
        simp only [List.getElem_cons_succ]
        unfold lkp
        rw [if_neg (sless_ne (h2.1 _ (List.getElem_mem _)))]
        exact ih n _ h2.2
     have hzl : i < (ks.zip xs).length := by rw [List.length_zip]; omega
     have := go (ks.zip xs) i hzl (by have := hz ▸ hr; rwa [List.pairwise_map] at this)
     rw [List.getElem_zip] at this
     exact this
   · have h0 : lkp j (ks.zip xs) = none := lkp_none fun p hp e => hj (by rw [← hz]; exact List.mem_map.2 ⟨p, hp, e⟩)
     rw [h0]
     have hall : ∀ p ∈ l, p.1 ≠ j := fun p hp e => hj ((hm j).2 ⟨p, hp, e⟩)
     have go : ∀ n, none = lastUp l j n := by
      intro n
      induction n with
      | zero => rfl
      | succ n ih =>
       unfold lastUp
       cases hg : l[n]? with
       | none => exact ih
       | some p =>
        show none = if p.1 = j then _ else _
        rw [if_neg (hall p (List.mem_of_getElem? hg))]
        exact ih
     exact go _
end
end Go.Proofs.YthigbklhngihkaaGreatDoor.P
namespace Go.Proofs
open Go.RowKit Go.Maps Go.Sort Go.Shelf
def Tryz.keys68_ren : Go.Shelf.Ren := ⟨fun | 7 => 68 | 10 => 111 | n => n, fun | 23 => 87 | 26 => 9 | 3 => 28 | 28 => 90 | 0 => 0 | 27 => 89 | 33 => 141 | 4 => 4 | n => n, fun | n => n⟩
theorem Tryz.keys68 : Go.Proofs.SlLaysZ.n7 Tryz.prog Tryz.keys68_ren := {
 mixed := by kernel_rfl
 f7 := ⟨Tryz.f68.name, by decide, Tryz.func68.trans (congrArg some (by kernel_rfl))⟩
 f10 := ⟨Tryz.f111.name, by decide, Tryz.func111.trans (congrArg some (by kernel_rfl))⟩
 t0 := Tryz.underlying0
 a0 := Tryz.isAgg0
 z0 := Tryz.sizeOf0
 v0 := Tryz.zeroValue0
 t4 := Tryz.underlying4
 a4 := Tryz.isAgg4
 z4 := Tryz.sizeOf4
 v4 := Tryz.zeroValue4
 t23 := Tryz.underlying87
 a23 := Tryz.isAgg87
 z23 := Tryz.sizeOf87
 v23 := Tryz.zeroValue87
 t26 := Tryz.underlying9
 a26 := Tryz.isAgg9
 z26 := Tryz.sizeOf9
 v26 := Tryz.zeroValue9
 t27 := Tryz.underlying89
 a27 := Tryz.isAgg89
 z27 := Tryz.sizeOf89
 v27 := Tryz.zeroValue89
 t28 := Tryz.underlying90
 a28 := Tryz.isAgg90
 z28 := Tryz.sizeOf90
 v28 := Tryz.zeroValue90
 t33 := Tryz.underlying141
 a33 := Tryz.isAgg141
 z33 := Tryz.sizeOf141
 v33 := Tryz.zeroValue141 }
def Tryz.sorted67_ren : Go.Shelf.Ren := ⟨fun | 6 => 67 | 8 => 109 | 9 => 110 | 11 => 150 | 13 => 152 | 12 => 151 | 23 => 193 | 24 => 194 | 14 => 184 | 15 => 185 | 16 => 186 | 17 => 187 | 18 => 188 | 19 => 189 | 20 => 190 | 21 => 191 | 22 => 192 | 25 => 239 | 26 => 240 | 27 => 241 | 28 => 242 | 29 => 243 | 30 => 142 | 31 => 278 | n => n, fun | 26 => 9 | 28 => 90 | 24 => 26 | 0 => 0 | 3 => 3 | 37 => 172 | 48 => 131 | 50 => 132 | 4 => 4 | 40 => 206 | 39 => 205 | 45 => 95 | 5 => 5 | 9 => 9 | 51 => 261 | 55 => 265 | 57 => 296 | 58 => 67 | 33 => 141 | n => n, fun | n => n⟩
theorem Tryz.sorted67 : Go.Proofs.SlLaysZ.n6 Tryz.prog Tryz.sorted67_ren := {
 mixed := by kernel_rfl
 f6 := ⟨Tryz.f67.name, by decide, Tryz.func67.trans (congrArg some (by kernel_rfl))⟩
 f8 := ⟨Tryz.f109.name, by decide, Tryz.func109.trans (congrArg some (by kernel_rfl))⟩
 f11 := ⟨Tryz.f150.name, by decide, Tryz.func150.trans (congrArg some (by kernel_rfl))⟩
 t0 := Tryz.underlying0
 a0 := Tryz.isAgg0
 z0 := Tryz.sizeOf0
 v0 := Tryz.zeroValue0
 t24 := Tryz.underlying26
 a24 := Tryz.isAgg26
 z24 := Tryz.sizeOf26
 v24 := Tryz.zeroValue26
 t26 := Tryz.underlying9
 a26 := Tryz.isAgg9
 z26 := Tryz.sizeOf9
 v26 := Tryz.zeroValue9
 t28 := Tryz.underlying90
 a28 := Tryz.isAgg90
 z28 := Tryz.sizeOf90
 v28 := Tryz.zeroValue90
 i26 := by kernel_rfl }
def Tryz.sort110_ren : Go.Shelf.Ren := ⟨fun | 6 => 110 | 8 => 152 | 9 => 151 | 19 => 193 | 20 => 194 | 21 => 184 | 22 => 185 | 23 => 186 | 24 => 187 | 25 => 188 | 26 => 189 | 27 => 190 | 28 => 191 | 29 => 192 | 36 => 239 | 31 => 240 | 32 => 241 | 37 => 242 | 38 => 243 | 39 => 142 | 41 => 278 | n => n, fun | 27 => 26 | 29 => 9 | 3 => 3 | 32 => 172 | 26 => 26 | 0 => 0 | 44 => 131 | 46 => 132 | 4 => 4 | 36 => 206 | 35 => 205 | 41 => 95 | 5 => 5 | 9 => 9 | 53 => 261 | 57 => 265 | 63 => 296 | 64 => 67 | n => n, fun | n => n⟩
theorem Tryz.sort110 : Go.Proofs.SlLaysM.n6 Tryz.prog Tryz.sort110_ren := {
 mixed := by kernel_rfl
 f6 := ⟨Tryz.f110.name, by decide, Tryz.func110.trans (congrArg some (by kernel_rfl))⟩
 f8 := Tryz.func152.trans (congrArg some (by kernel_rfl))
 f9 := ⟨Tryz.f151.name, by decide, Tryz.func151.trans (congrArg some (by kernel_rfl))⟩
 f19 := Tryz.func193.trans (congrArg some (by kernel_rfl))
 f20 := Tryz.func194.trans (congrArg some (by kernel_rfl))
 f21 := ⟨Tryz.f184.name, by decide, Tryz.func184.trans (congrArg some (by kernel_rfl))⟩
 f22 := ⟨Tryz.f185.name, by decide, Tryz.func185.trans (congrArg some (by kernel_rfl))⟩
 f23 := ⟨Tryz.f186.name, by decide, Tryz.func186.trans (congrArg some (by kernel_rfl))⟩
 f24 := ⟨Tryz.f187.name, by decide, Tryz.func187.trans (congrArg some (by kernel_rfl))⟩
 f25 := ⟨Tryz.f188.name, by decide, Tryz.func188.trans (congrArg some (by kernel_rfl))⟩
 f26 := ⟨Tryz.f189.name, by decide, Tryz.func189.trans (congrArg some (by kernel_rfl))⟩
 f27 := ⟨Tryz.f190.name, by decide, Tryz.func190.trans (congrArg some (by kernel_rfl))⟩
 f28 := ⟨Tryz.f191.name, by decide, Tryz.func191.trans (congrArg some (by kernel_rfl))⟩
 f29 := ⟨Tryz.f192.name, by decide, Tryz.func192.trans (congrArg some (by kernel_rfl))⟩
 f31 := Tryz.func240.trans (congrArg some (by kernel_rfl))
 f32 := Tryz.func241.trans (congrArg some (by kernel_rfl))
 f36 := ⟨Tryz.f239.name, by decide, Tryz.func239.trans (congrArg some (by kernel_rfl))⟩
 f37 := ⟨Tryz.f242.name, by decide, Tryz.func242.trans (congrArg some (by kernel_rfl))⟩
 f38 := ⟨Tryz.f243.name, by decide, Tryz.func243.trans (congrArg some (by kernel_rfl))⟩
 f39 := ⟨Tryz.f142.name, by decide, Tryz.func142.trans (congrArg some (by kernel_rfl))⟩
 f41 := ⟨Tryz.f278.name, by decide, Tryz.func278.trans (congrArg some (by kernel_rfl))⟩
 t0 := Tryz.underlying0
 a0 := Tryz.isAgg0
 z0 := Tryz.sizeOf0
 v0 := Tryz.zeroValue0
 t3 := Tryz.underlying3
 a3 := Tryz.isAgg3
 z3 := Tryz.sizeOf3
 v3 := Tryz.zeroValue3
 t4 := Tryz.underlying4
 a4 := Tryz.isAgg4
 z4 := Tryz.sizeOf4
 v4 := Tryz.zeroValue4
 t5 := Tryz.underlying5
 a5 := Tryz.isAgg5
 z5 := Tryz.sizeOf5
 v5 := Tryz.zeroValue5
 t9 := Tryz.underlying9
 a9 := Tryz.isAgg9
 z9 := Tryz.sizeOf9
 v9 := Tryz.zeroValue9
 t26 := Tryz.underlying26
 a26 := Tryz.isAgg26
 z26 := Tryz.sizeOf26
 v26 := Tryz.zeroValue26
 t27 := Tryz.underlying26
 a27 := Tryz.isAgg26
 z27 := Tryz.sizeOf26
 v27 := Tryz.zeroValue26
 t29 := Tryz.underlying9
 a29 := Tryz.isAgg9
 z29 := Tryz.sizeOf9
 v29 := Tryz.zeroValue9
 t32 := Tryz.underlying172
 a32 := Tryz.isAgg172
 z32 := Tryz.sizeOf172
 v32 := Tryz.zeroValue172
 t35 := Tryz.underlying205
 a35 := Tryz.isAgg205
 z35 := Tryz.sizeOf205
 v35 := Tryz.zeroValue205
 t36 := Tryz.underlying206
 a36 := Tryz.isAgg206
 z36 := Tryz.sizeOf206
 v36 := Tryz.zeroValue206
 t41 := Tryz.underlying95
 a41 := Tryz.isAgg95
 z41 := Tryz.sizeOf95
 v41 := Tryz.zeroValue95
 t44 := Tryz.underlying131
 a44 := Tryz.isAgg131
 z44 := Tryz.sizeOf131
 v44 := Tryz.zeroValue131
 t46 := Tryz.underlying132
 a46 := Tryz.isAgg132
 z46 := Tryz.sizeOf132
 v46 := Tryz.zeroValue132
 t53 := Tryz.underlying261
 a53 := Tryz.isAgg261
 z53 := Tryz.sizeOf261
 v53 := Tryz.zeroValue261
 t57 := Tryz.underlying265
 a57 := Tryz.isAgg265
 z57 := Tryz.sizeOf265
 v57 := Tryz.zeroValue265
 t63 := Tryz.underlying296
 a63 := Tryz.isAgg296
 z63 := Tryz.sizeOf296
 v63 := Tryz.zeroValue296
 t64 := Tryz.underlying67
 a64 := Tryz.isAgg67
 z64 := Tryz.sizeOf67
 v64 := Tryz.zeroValue67 }
theorem Tryz.sorts67 (m : Nat) : AnyZ.SortsIn Tryz.prog Tryz.sorted67_ren Fence.wide m :=
 ⟨fun blk off cap ss W hH hblk hsz => callsIn_wide.2 (AnyM.slices_Sort_string Tryz.sort110 blk off cap ss W hH hblk hsz),
  fun p cap W => callsIn_wide.2 (AnyM.slices_Sort_string_none Tryz.sort110 p cap W)⟩
theorem Tryz.maps_Keys_68 (mb : Option Nat) (W : World) : CallsIn Fence.wide 5 Tryz.prog 68 #[.map mb] W fun e w' => e = .returned (.func (.func 111) #[] #[.pointer (some ⟨W.heap.size, 0, none⟩)]) ∧ w' = W.alloc (.cells #[.map mb] 87) :=
 AnyZ.keys_in Tryz.keys68 Fence.wide 5 trivial rfl mb W
set_option maxHeartbeats 1000000 in
theorem Tryz.slices_Sorted_keys_67_68 {H : Type} (b nn : Nat) (D0 : DataW H) (R : Value → Option (DataW H × List MemPlace)) (w : World) (hown : w.ownsMap Tryz.prog 9 R b nn D0) (hmax : Maps.size D0 ≤ maxLen) (hbytes : Maps.size D0 * 16 ≤ 140737488355328) :
 CallsIn Fence.wide 5 Tryz.prog 67 #[.func (.func 111) #[] #[.pointer (some ⟨w.heap.size, 0, none⟩)]] (w.alloc (.cells #[.map (some b)] 87)) fun e w' => ∃ (v : Value) (ss : List (List UInt8)), e = .returned v ∧ ss.Perm (strKeys D0) ∧
  w'.ownsRow (w.alloc (.cells #[.map (some b)] 87)).heap.size 9 1 v ss.length ((ss.mergeSort (fun x y => decide (x ≤ y))).map encStr) ∧ (v = .slice none 0 0 ↔ ss = []) ∧ Below (w.alloc (.cells #[.map (some b)] 87)).heap.size (w.alloc (.cells #[.map (some b)] 87)) w' := by
 have hbl := hown.lt
 have hseq : SeqGives Fence.wide 2 Tryz.prog 111 #[.pointer (some ⟨w.heap.size, 0, none⟩)] encStr (fun ss => ss.Perm (strKeys D0)) (Maps.size D0) (w.alloc (.cells #[.map (some b)] 87)) :=
  AnyZ.keys_gives (ρ := Tryz.keys68_ren) { Tryz.keys68 with } Fence.wide _ trivial rfl (by omega) w.heap.size b nn D0 _ (by simp) (by simp) (by
   obtain ⟨es, clock, hb, Ft, hs, hD⟩ := hown
   exact ⟨es, clock, (Below.heap_alloc _ _ b hbl).trans hb, Ft, hs, hD⟩)
 exact AnyZ.sorted_in Tryz.sorted67 Fence.wide 5 trivial trivial trivial trivial rfl (by omega) (Tryz.sorts67 _) (enters_of Tryz.func110 (by kernel_rfl) rfl) 111 #[.pointer (some ⟨w.heap.size, 0, none⟩)] trivial (enters_of Tryz.func111 (by kernel_rfl) rfl) _ _ hmax hbytes _ hseq
end Go.Proofs
namespace Go.Proofs.YthigbklhngihkaaGreatDoor.P
open Go.RowKit Go.Maps Go.Sort Go.Proofs.YthigbklhngihkaaGreatDoorW.PrintWords Go.Proofs.YthigbklhngihkaaGreatDoorW.PrintMore Go.Proofs.YthigbklhngihkaaGreatDoorW.PrintLast
def keyL (k : ByteArray) : Lit := .string k.data.toList
theorem keyL_inj {a b : ByteArray} (h : keyL a = keyL b) : a = b := by
 unfold keyL at h
 injection h with h
 exact ByteArray.ext (Array.toList_inj.1 h)
theorem keyL_is (a : ByteArray) : WideAt.IsKeyLit (keyL a) := by unfold keyL; simp [WideAt.IsKeyLit]
def rawR (v : Value) : Option (DataW Value × List MemPlace) := some (.held v, [])
def mapUp (l : List (ByteArray × Value)) (i : Nat) : DataW Value := (l.take i).foldl (fun D p => D.put (keyL p.1) (.held p.2)) (.map [])
theorem mapUp_succ (l : List (ByteArray × Value)) (i : Nat) (h : i < l.length) : mapUp l (i + 1) = (mapUp l i).put (keyL (l[i]).1) (.held (l[i]).2) := by
 unfold mapUp
 rw [List.take_succ_eq_append_getElem h, List.foldl_append]
 rfl
theorem mapUp_isMap (l : List (ByteArray × Value)) (i : Nat) : i ≤ l.length → IsMap (mapUp l i) := by
 induction i with
 | zero => intro _; exact ⟨[], by unfold mapUp; simp⟩
 | succ i ih => intro h; rw [mapUp_succ l i (by omega)]; exact (ih (by omega)).put _ _
theorem mapUp_at (l : List (ByteArray × Value)) (j : ByteArray) (z : Value) (i : Nat) : i ≤ l.length → (mapUp l i).atKey (keyL j) (.held z) = .held ((lastUp l j i).getD z) := by
 induction i with
 | zero => intro _; unfold mapUp lastUp; simp [DataW.atKey]
 | succ i ih =>
  intro h
  rw [mapUp_succ l i (by omega), lastUp_succ l j i (by omega)]
  by_cases hk : (l[i]).1 = j
  · rw [if_pos hk, ← hk, atKey_put_same (mapUp_isMap l i (by omega)) (keyL_is _)]
    rfl
  · rw [if_neg hk, atKey_put_other (fun e => hk (keyL_inj e).symm)]
    exact ih (by omega)
theorem mapUp_has (l : List (ByteArray × Value)) (j : ByteArray) (i : Nat) : i ≤ l.length → has (mapUp l i) (keyL j) = (lastUp l j i).isSome := by
 induction i with
 | zero => intro _; unfold mapUp lastUp; simp [has]
 | succ i ih =>
  intro h
  rw [mapUp_succ l i (by omega), lastUp_succ l j i (by omega)]
  by_cases hk : (l[i]).1 = j
  · rw [if_pos hk, ← hk, has_put_same (mapUp_isMap l i (by omega)) (keyL_is _)]
    rfl
  · rw [if_neg hk, has_put_other (fun e => hk (keyL_inj e).symm)]
    exact ih (by omega)
theorem lastUp_isSome {α : Type} (l : List (ByteArray × α)) (j : ByteArray) (i : Nat) : i ≤ l.length → ((lastUp l j i).isSome = true ↔ ∃ p ∈ l.take i, p.1 = j) := by
 induction i with
 | zero => intro _; unfold lastUp; simp
 | succ i ih =>
  intro h
  rw [lastUp_succ l j i (by omega), List.take_succ_eq_append_getElem (by omega)]
  by_cases hk : (l[i]).1 = j
  · rw [if_pos hk]
    simp only [Option.isSome_some, true_iff]
    exact ⟨_, List.mem_append_right _ (List.mem_singleton.2 rfl), hk⟩
  · rw [if_neg hk, ih (by omega)]
    constructor
    · rintro ⟨p, hp, e⟩
      exact ⟨p, List.mem_append_left _ hp, e⟩
    · rintro ⟨p, hp, e⟩
      rcases List.mem_append.1 hp with hp | hp
      · exact ⟨p, hp, e⟩
      · rw [List.mem_singleton.1 hp] at e
        exact absurd e hk
def strB (x : List UInt8) : ByteArray := ⟨x.toArray⟩
theorem strB_data (x : List UInt8) : (strB x).data.toList = x := rfl
theorem keyL_strB (x : List UInt8) : keyL (strB x) = .string x := rfl
theorem sless_lt {a b : ByteArray} : sless a b = true ↔ a.data.toList < b.data.toList := by
 unfold sless
 rw [ByteArray.toList_eq, ByteArray.toList_eq, bytesLess_eq]
 simp
theorem keys_sorted {w : World} {b n : Nat} {l : List (ByteArray × Value)} (h : w.ownsMap Tryz.prog 9 rawR b n (mapUp l l.length)) {ss : List (List UInt8)} (hp : ss.Perm (strKeys (mapUp l l.length))) :
 ((ss.mergeSort (fun x y => decide (x ≤ y))).map strB).Pairwise (fun a b => sless a b = true) ∧ (∀ j, j ∈ (ss.mergeSort (fun x y => decide (x ≤ y))).map strB ↔ ∃ p ∈ l, p.1 = j) := by
 have K := string_keyed Tryz.underlying9
 obtain ⟨es, hD, hpw, _⟩ := h.entries K
 obtain ⟨es', hD', hko⟩ := h.keysOf
 obtain rfl : es = es' := by rw [hD] at hD'; simpa using hD'
 have hk : ∀ p ∈ es, ∃ x, p.1 = .string x := fun p hp => by
  obtain ⟨v, hv⟩ := hko p hp
  obtain ⟨x, _, hx, _⟩ := Maps.keyOf_str Tryz.underlying9 hv
  exact ⟨x, hx⟩
 have hnd : (strKeys (mapUp l l.length)).Nodup := by
  rw [hD]
  show (es.map fun p => strOf p.1).Nodup
  refine List.pairwise_map.2 (hpw.imp_of_mem fun {p q} hp' hq' hne e => hne ?_)
  obtain ⟨a, ha⟩ := hk p hp'
  obtain ⟨b, hb⟩ := hk q hq'
  rw [ha, hb] at e ⊢
  exact congrArg _ e
 have hmem : ∀ x, x ∈ strKeys (mapUp l l.length) ↔ has (mapUp l l.length) (.string x) = true := fun x => by
  rw [hD, has_eq, List.any_eq_true]
  show x ∈ es.map (fun p => strOf p.1) ↔ _
  rw [List.mem_map]
  constructor
  · rintro ⟨p, hp', rfl⟩
    obtain ⟨a, ha⟩ := hk p hp'
    exact ⟨p, hp', by rw [ha]; simp [Lit.sameKey, strOf]⟩
  · rintro ⟨p, hp', hs⟩
    obtain ⟨a, ha⟩ := hk p hp'
    rw [ha] at hs
    exact ⟨p, hp', by rw [ha]; simpa [Lit.sameKey, strOf] using hs⟩
 have hsp := List.mergeSort_perm ss (fun x y => decide (x ≤ y))
 have tr : ∀ a b c : List UInt8, decide (a ≤ b) = true → decide (b ≤ c) = true → decide (a ≤ c) = true := fun a b c h1 h2 => by simp only [decide_eq_true_eq] at *; exact List.le_trans h1 h2
 have tot : ∀ a b : List UInt8, (decide (a ≤ b) || decide (b ≤ a)) = true := fun a b => by simp only [Bool.or_eq_true, decide_eq_true_eq]; exact List.le_total a b
 have hs := List.pairwise_mergeSort tr tot ss
 have hn2 : (ss.mergeSort (fun x y => decide (x ≤ y))).Nodup := (hsp.trans hp).nodup_iff.2 hnd
 refine ⟨List.pairwise_map.2 ((hs.and hn2).imp fun {a b} hab => ?_), fun j => ?_⟩
 · rw [sless_lt, strB_data, strB_data]
   have h1 : a ≤ b := of_decide_eq_true hab.1
   rcases List.le_iff_lt_or_eq.1 h1 with h2 | h2
   · exact h2
   · exact absurd h2 hab.2
 · rw [List.mem_map]
   have e : (∃ p ∈ l, p.1 = j) ↔ has (mapUp l l.length) (keyL j) = true := by
    rw [mapUp_has l j _ (Nat.le_refl _), lastUp_isSome l j _ (Nat.le_refl _), List.take_length]
   rw [e]
   constructor
   · rintro ⟨x, hx, rfl⟩
     rw [keyL_strB]
     exact (hmem x).1 ((hsp.trans hp).mem_iff.1 hx)
   · intro hh
     exact ⟨j.data.toList, (hsp.trans hp).mem_iff.2 ((hmem _).2 hh), rfl⟩
def kvs (ks : List ByteArray) (l : List V) : List (ByteArray × V) := objUp (ks.zip l) (ks.zip l).length
def objRaw (ks : List ByteArray) (l : List V) : V := ⟨6, ⟨false, [], 0⟩, ⟨#[]⟩, (kvs ks l).map Prod.snd, (kvs ks l).map Prod.fst⟩
def objE (ks : List ByteArray) (l : List V) : Int := if ks.length = l.length then vchk (objRaw ks l) else 3
def objV (ks : List ByteArray) (l : List V) : V := if objE ks l = 0 then objRaw ks l else zeroV
theorem okV_obj {ks : List ByteArray} {l : List V} (hO : ∀ x ∈ l, OkV x) (hk : ∀ k ∈ ks, k.size ≤ 1073741824) (hn : ks.length ≤ 1073741824) : OkV (objRaw ks l) := by
 have hmem := objUp_mem (ks.zip l) _ (Nat.le_refl _)
 have hlen := objUp_len (ks.zip l) _ (Nat.le_refl _)
 have hz : (ks.zip l).length ≤ ks.length := by rw [List.length_zip]; omega
 refine OkV.mk _ (by show (Lit.int .i64 6).wf = true; rfl) (fun n hn => absurd hn (by unfold objRaw; simp)) (by show (Lit.int .i64 0).wf = true; rfl) (by show (0 : Nat) ≤ 1073741824; decide) (fun k hk2 => ?_) (by unfold objRaw; simp) (by unfold objRaw kvs; simp only [List.length_map]; omega) (by unfold objRaw kvs; simp only [List.length_map]; omega) (fun y hy => ?_)
 · obtain ⟨p, hp, rfl⟩ := List.mem_map.1 hk2
   exact hk _ (List.of_mem_zip (hmem p hp)).1
 · obtain ⟨p, hp, rfl⟩ := List.mem_map.1 hy
   exact hO _ (List.of_mem_zip (hmem p hp)).2
theorem last_two {α β : Type} (ks : List ByteArray) (xs : List α) (ys : List β) (h1 : xs.length = ks.length) (h2 : ys.length = ks.length) (j : ByteArray) (i : Nat) : i ≤ ks.length →
 (lastUp (ks.zip xs) j i = none ∧ lastUp (ks.zip ys) j i = none) ∨ ∃ (t : Nat) (x : α) (y : β), xs[t]? = some x ∧ ys[t]? = some y ∧ lastUp (ks.zip xs) j i = some x ∧ lastUp (ks.zip ys) j i = some y := by
 induction i with
 | zero => intro _; exact .inl ⟨rfl, rfl⟩
 | succ i ih =>
  intro h
  have z1 : i < (ks.zip xs).length := by rw [List.length_zip]; omega
  have z2 : i < (ks.zip ys).length := by rw [List.length_zip]; omega
  rw [lastUp_succ _ j i z1, lastUp_succ _ j i z2, List.getElem_zip, List.getElem_zip]
  by_cases hk : ks[i] = j
  · rw [if_pos hk, if_pos hk]
    exact .inr ⟨i, xs[i]'(by omega), ys[i]'(by omega), List.getElem?_eq_getElem (by omega), List.getElem?_eq_getElem (by omega), rfl, rfl⟩
  · rw [if_neg hk, if_neg hk]
    exact ih (by omega)
theorem zip_key {α : Type} {ks : List ByteArray} {xs : List α} (h : xs.length = ks.length) {j : ByteArray} : (∃ p ∈ ks.zip xs, p.1 = j) ↔ j ∈ ks := by
 have e : (ks.zip xs).map Prod.fst = ks := List.map_fst_zip (by omega)
 constructor
 · rintro ⟨p, hp, rfl⟩
   exact (List.of_mem_zip hp).1
 · intro hj
   rw [← e] at hj
   obtain ⟨p, hp, rfl⟩ := List.mem_map.1 hj
   exact ⟨p, hp, rfl⟩
def aggs (rows : List (List Value)) : List Value := rows.map fun c => .agg c.toArray
def rowOf (ks : List ByteArray) (rows : List (List Value)) (j : ByteArray) : List Value := (lastUp (ks.zip rows) j ks.length).getD []
def valOf (ks : List ByteArray) (l : List V) (j : ByteArray) : V := (lastUp (ks.zip l) j ks.length).getD zeroV
theorem last_map {α β : Type} (f : α → β) (ks : List ByteArray) (xs : List α) (j : ByteArray) (i : Nat) (h1 : xs.length = ks.length) : i ≤ ks.length → lastUp (ks.zip (xs.map f)) j i = (lastUp (ks.zip xs) j i).map f := by
 induction i with
 | zero => intro _; rfl
 | succ i ih =>
  intro h
  have z1 : i < (ks.zip xs).length := by rw [List.length_zip]; omega
  have z2 : i < (ks.zip (xs.map f)).length := by rw [List.length_zip, List.length_map]; omega
  rw [lastUp_succ _ j i z1, lastUp_succ _ j i z2, List.getElem_zip, List.getElem_zip, List.getElem_map]
  by_cases hk : ks[i] = j
  · rw [if_pos hk, if_pos hk]; rfl
  · rw [if_neg hk, if_neg hk]
    exact ih (by omega)
theorem key_row {w : World} {ks : List ByteArray} {l : List V} {rows : List (List Value)} (h1 : l.length = ks.length) (h2 : rows.length = ks.length) (hK : ∀ (j : Nat) (x : V) (c : List Value), l[j]? = some x → rows[j]? = some c → k28.K w x c) {j : ByteArray} (hj : ∃ p ∈ ks.zip l, p.1 = j) :
 k28.K w (valOf ks l j) (rowOf ks rows j) ∧ lastUp (ks.zip l) j ks.length = some (valOf ks l j) ∧ lastUp (ks.zip (aggs rows)) j ks.length = some (.agg (rowOf ks rows j).toArray) := by
 have hz : (ks.zip l).length = ks.length := by rw [List.length_zip]; omega
 have hs : (lastUp (ks.zip l) j ks.length).isSome = true := by
  have := (lastUp_isSome (ks.zip l) j _ (Nat.le_refl _)).2 (by rw [List.take_length]; exact hj)
  rwa [hz] at this
 unfold aggs
 rw [last_map _ ks rows j _ h2 (Nat.le_refl _)]
 unfold valOf rowOf
 rcases last_two ks l rows h1 h2 j ks.length (Nat.le_refl _) with ⟨e, _⟩ | ⟨t, x, c, q1, q2, q3, q4⟩
 · rw [e] at hs; cases hs
 · rw [q3, q4]
   exact ⟨hK t x c q1 q2, rfl, rfl⟩
theorem raw_to_V {W : World} {A : Option Addr} {n : Nat} {rows : List (List Value)} {l : List V} (h : (Kd.raw 7).C W A n rows) (hl : l.length = rows.length) (hK : ∀ (j : Nat) (x : V) (c : List Value), l[j]? = some x → rows[j]? = some c → k28.K W x c) : k28.C W A n l := by
 refine ⟨hl.trans h.1, h.2.1, fun hn => ?_⟩
 obtain ⟨ad, e, hc⟩ := h.2.2 hn
 refine ⟨ad, e, fun j p hj => ?_⟩
 have hjl : j < rows.length := by have := (List.getElem?_eq_some_iff.1 hj).1; omega
 obtain ⟨c, hlen, hk, hcell⟩ := hc j rows[j] (List.getElem?_eq_getElem hjl)
 exact ⟨c, hlen, hK j p c hj ((List.getElem?_eq_getElem hjl).trans (congrArg some hk.1.symm)), hcell⟩
theorem at_raw {w0 w : World} {A : Option Addr} {n : Nat} {rows : List (List Value)} (h : (Kd.raw 7).C w0 A n rows) (hb : Below w0.heap.size w0 w) (k : Nat) (hk : k < n) : ∃ ad a0 a1 a2 a3 a4 a5 a6, A = some ad ∧ rows.getD k [] = [a0, a1, a2, a3, a4, a5, a6] ∧
 w.cell? (ad.add (k * 7)) = some a0 ∧ w.cell? ⟨(ad.add (k * 7)).block, (ad.add (k * 7)).off + 1, none⟩ = some a1 ∧ w.cell? ⟨(ad.add (k * 7)).block, (ad.add (k * 7)).off + 2, none⟩ = some a2 ∧ w.cell? ⟨(ad.add (k * 7)).block, (ad.add (k * 7)).off + 3, none⟩ = some a3 ∧ w.cell? ⟨(ad.add (k * 7)).block, (ad.add (k * 7)).off + 4, none⟩ = some a4 ∧ w.cell? ⟨(ad.add (k * 7)).block, (ad.add (k * 7)).off + 5, none⟩ = some a5 ∧ w.cell? ⟨(ad.add (k * 7)).block, (ad.add (k * 7)).off + 6, none⟩ = some a6 := by
 obtain ⟨ad, c, e, hl, hK, hc0⟩ := Kd.C_get h ([] : List Value) (k : Int) (by omega) (by omega)
 rw [Int.toNat_natCast] at hK hc0
 obtain ⟨a0, a1, a2, a3, a4, a5, a6, rfl⟩ := list7 (show c.length = 7 from hl)
 have hc : ∀ j u, [a0, a1, a2, a3, a4, a5, a6][j]? = some u → w0.cell? (ad.add (k * 7 + j)) = some u := hc0
 exact ⟨ad, a0, a1, a2, a3, a4, a5, a6, e, hK.1.symm, pw_cell_below hb (hc 0 _ rfl), pw_cell_below hb (by rw [← add_field _ _ 1 (by omega)]; exact hc 1 _ rfl), pw_cell_below hb (by rw [← add_field _ _ 2 (by omega)]; exact hc 2 _ rfl), pw_cell_below hb (by rw [← add_field _ _ 3 (by omega)]; exact hc 3 _ rfl), pw_cell_below hb (by rw [← add_field _ _ 4 (by omega)]; exact hc 4 _ rfl), pw_cell_below hb (by rw [← add_field _ _ 5 (by omega)]; exact hc 5 _ rfl), pw_cell_below hb (by rw [← add_field _ _ 6 (by omega)]; exact hc 6 _ rfl)⟩
structure ObjMid (w4 wr : World) (g : Nat) (K6 v : Value) (rows : List (List Value)) : Prop where
 box : wr.heap[g]? = some (.cells #[.int .i64 6, .bool false, .slice none 0 0, .int .i64 0, .string ⟨#[]⟩, v, K6] 28 (0, 0))
 row : (Kd.raw 7).R 28 wr (g + 1) (fun _ => True) v rows
 bel : Below g w4 wr
theorem ObjMid.step {w4 wr w7 : World} {g : Nat} {K6 v v1 : Value} {rows : List (List Value)} {c : List Value} (h : ObjMid w4 wr g K6 v rows) (hR : (Kd.raw 7).R 28 w7 (g + 1) (fun _ => True) v1 (rows ++ [c])) (hB : Below (g + 1) wr w7) : ObjMid w4 (w7.setCell ⟨g, 5, none⟩ v1) g K6 v1 (rows ++ [c]) := by
 refine ⟨?_, ?_, ?_⟩
 · have := blk_set ((hB.block g (by omega)).trans h.box) 5 v1
   rw [this]
   rfl
 · exact Kd.R_mono (Kd.R_move (Kd.R_bound hR) (fun j hj => Below.heap_setCell _ _ _ _ (by have := hj.2.1; simp; omega))) (fun _ _ => trivial)
 · exact (h.bel.trans (hB.mono (by omega))).setCell (p := ⟨g, 5, none⟩) (by simp) _
theorem owns_below {W W' : World} {b n : Nat} {D : DataW Value} (h : W.ownsMap Tryz.prog 9 rawR b n D) {B : Nat} (hb : Below B W W') (hB : b < B) : W'.ownsMap Tryz.prog 9 rawR b n D := by
 obtain ⟨es, clock, h1, h2, h3, h4⟩ := h
 exact ⟨es, clock, (hb.block b hB).trans h1, h2, h3, h4⟩
theorem map_look {W : World} {b n : Nat} {kr : List (ByteArray × Value)} {s : ByteArray} {v : Value} (h : W.ownsMap Tryz.prog 9 rawR b n (mapUp kr kr.length)) (hs : s.size ≤ maxLen) (hl : lastUp kr s kr.length = some v) : (Instr.lookup 87 (.map (some b)) (.string s) false).run Tryz.prog W = .ok v W := by
 obtain ⟨u, ps, hrun, hu⟩ := h.lookup (string_keyed Tryz.underlying9) Tryz.underlying87 (z := .agg #[.int .i64 0, .bool false, .slice none 0 0, .int .i64 0, .string ⟨#[]⟩, .slice none 0 0, .slice none 0 0]) (by rw [Tryz.zeroValue28]) (zd := .held (.agg #[.int .i64 0, .bool false, .slice none 0 0, .int .i64 0, .string ⟨#[]⟩, .slice none 0 0, .slice none 0 0])) (zp := []) rfl (WideMaps.keyOf_string_mk Tryz.underlying9 hs)
 have e : (mapUp kr kr.length).atKey (Lit.string s.data.toList) (.held (.agg #[.int .i64 0, .bool false, .slice none 0 0, .int .i64 0, .string ⟨#[]⟩, .slice none 0 0, .slice none 0 0])) = _ := mapUp_at kr s _ _ (Nat.le_refl _)
 rw [e, hl] at hu
 have h1 : (.held u : DataW Value) = .held v := congrArg Prod.fst (Option.some.inj hu)
 rw [hrun, DataW.held.inj h1]
def skeys (ss : List (List UInt8)) : List ByteArray := (ss.mergeSort (fun x y => decide (x ≤ y))).map strB
theorem skeys_len (ss : List (List UInt8)) : (skeys ss).length = ss.length := by unfold skeys; rw [List.length_map, (List.mergeSort_perm ss _).length_eq]
theorem sorted_R {W : World} {base : Nat} {v : Value} {ss : List (List UInt8)} (h : W.ownsRow base 9 1 v ss.length ((ss.mergeSort (fun x y => decide (x ≤ y))).map encStr)) : Kd.R Kd.string 9 W base (fun _ => True) v (skeys ss) := by
 refine Kd.R_of_own (enc := Value.string) ?_ (fun _ _ => trivial)
 rw [skeys_len]
 have : encs Value.string (skeys ss) = (ss.mergeSort (fun x y => decide (x ≤ y))).map encStr := by
  unfold encs skeys
  rw [List.map_map]
  rfl
 rw [this]
 exact h
def ObjPost (ks : List ByteArray) (l : List V) (w : World) (r : Ending) (w' : World) : Prop := ∃ cs : List Value, r = .returned (.tuple #[.agg cs.toArray, .int .i64 (objE ks l)]) ∧ k28.M w' w.heap.size (fun _ => True) (objV ks l) cs ∧ Below w.heap.size w w'
set_option maxHeartbeats 4000000 in
theorem Object_any (ks : List ByteArray) (l : List V) (A : Option Addr) (c : Nat) (B : Option Addr) (d : Nat) (w : World) (hLD : LaidW w) (hA : Kd.string.C w A ks.length ks) (hB : k28.C w B l.length l) (hO : ∀ x ∈ l, OkV x) (hks : ∀ k ∈ ks, k.size ≤ 1073741824) (hn1 : ks.length ≤ 1048576) :
 Calls Tryz.prog 22 #[.slice A ks.length c, .slice B l.length d] w (ObjPost ks l w) := by
 by_cases hlen : ks.length = l.length
 · obtain ⟨rows, hr1, hr2, hr3⟩ := Kd.reads_raw (sz := 7) hB (fun y c hk => ⟨k28.K_len hk, k28.K_one hk⟩)
   have hrl : rows.length = ks.length := by omega
   have HRAW : Hid ((Kd.raw 7).C w B l.length rows) := Lib.hid hr2
   have HKEYS := Lib.hid hA
   have HRK : Hid (∀ j, (∃ p ∈ ks.zip l, p.1 = j) → k28.K w (valOf ks l j) (rowOf ks rows j) ∧ lastUp (ks.zip l) j ks.length = some (valOf ks l j) ∧ lastUp (ks.zip (aggs rows)) j ks.length = some (.agg (rowOf ks rows j).toArray)) := Lib.hid (fun j hj => key_row hlen.symm hrl hr3 hj)
   have HOK := Lib.hid (okV_obj hO hks (by omega))
   have HSZ : Hid (∀ k : Nat, k < ks.length → (rdOf ByteArray.empty ks (k : Int)).size ≤ maxLen) := Lib.hid (fun k hk => by
    have : (rdOf ByteArray.empty ks (k : Int)).size ≤ 1073741824 := hks _ (by unfold rdOf; simp [hk])
    exact Nat.le_trans this (by decide))
   obtain ⟨n, hn⟩ : ∃ n, n = ks.length := ⟨_, rfl⟩
   obtain ⟨kr, hkr⟩ : ∃ kr, kr = ks.zip (aggs rows) := ⟨_, rfl⟩
   have hkl : kr.length = n := by rw [hkr, List.length_zip]; unfold aggs; rw [List.length_map]; omega
   have HST : Hid (∀ k : Nat, k < n → mapUp kr (k + 1) = (mapUp kr k).put (keyL (rdOf ByteArray.empty ks (k : Int))) (.held (.agg (rows.getD k []).toArray))) := Lib.hid (fun k hk => by
    rw [mapUp_succ kr k (by omega)]
    subst hkr
    rw [List.getElem_zip]
    unfold aggs rdOf
    simp [List.getD_eq_getElem?_getD, show k < ks.length by omega, show k < rows.length by omega])
   have HOE : Hid (objE ks l = vchk (objRaw ks l)) := Lib.hid (if_pos hlen)
   have HPP : Hid (∀ cs W, k28.M W w.heap.size (fun _ => True) (objV ks l) cs → Below w.heap.size w W → ObjPost ks l w (.returned (.tuple #[.agg cs.toArray, .int .i64 (objE ks l)])) W) := Lib.hid (fun cs W h1 h2 => ⟨cs, rfl, h1, h2⟩)
   have HLD := Lib.hid hLD
   have HKR := Lib.hid hkr
   have HKL := Lib.hid hkl
   have HN := Lib.hid hn
   have HL := Lib.hid hlen
   obtain ⟨W1, hW1⟩ : ∃ W1, W1 = w.alloc (.cells #[.int .i64 0, .bool false, .slice none 0 0, .int .i64 0, .string ⟨#[]⟩, .slice none 0 0, .slice none 0 0] 28) := ⟨_, rfl⟩
   have hb1 : Below w.heap.size w W1 := by rw [hW1]; exact (Below.refl _ _).alloc (Nat.le_refl _) _
   have hx1 : W1.heap[w.heap.size]? = some (.cells #[.int .i64 0, .bool false, .slice none 0 0, .int .i64 0, .string ⟨#[]⟩, .slice none 0 0, .slice none 0 0] 28 (0, 0)) := by rw [hW1]; exact blk_new _ _
   have hs1 : W1.heap.size = w.heap.size + 1 := by rw [hW1]; simp
   have HW1 := Lib.hid hW1
   have HB1 := Lib.hid hb1
   have HX1 := Lib.hid hx1
   have HS1 := Lib.hid hs1
   rw [← hlen, ← hn]
   rw [← hn] at hn1
   generalize hPE : ObjPost ks l w = P at *
   clear hPE hW1 hb1 hx1 hs1 hLD hA hB hO hks hr1 hr2 hr3 hrl hkl hkr hlen hn
   go_enter Tryz.func22, Tryz.ntmps22
   go_upto_region 1 with (fail)
   rw [← HW1.out]
   clear HW1
   have hmm := run_makeMap (P := Tryz.prog) 87 W1
   go_wp2
   clear hmm
   have hmax : 1048576 < maxLen := by decide
   go_loopw [21] (fun vi wr => ∃ k : Nat, k ≤ n ∧ vi = .int .i64 k ∧ Hid (wr.ownsMap Tryz.prog 9 rawR W1.heap.size k (mapUp kr k)) ∧ Hid (Below W1.heap.size W1 wr)) (fun vi _ => n - (intOf vi).toNat)
   case atStart => exact ⟨0, Nat.zero_le _, rfl, Lib.hid (World.ownsMap_made W1 _ _ _), Lib.hid ((Below.refl _ _).alloc (Nat.le_refl _) _)⟩
   case round =>
    obtain ⟨k, hk, rfl, HO, HB⟩ := hrel
    have HBW := Lib.hid (HB1.out.trans (HB.out.mono HB1.out.size))
    by_cases hlt : k < n
    · have hlt2 : (k : Int) < (n : Int) := by omega
      have hk0 : (0 : Int) ≤ (k : Int) := by omega
      have hkn : k < ks.length := by rw [← HN.out]; exact hlt
      obtain ⟨ad, rfl, hx⟩ := Kd.at_string (Kd.C_below HKEYS.out HBW.out) (k : Int) (by omega) (by omega)
      rw [Int.toNat_natCast] at hx
      obtain ⟨bd, a0, a1, a2, a3, a4, a5, a6, rfl, hrow, p0, p1, p2, p3, p4, p5, p6⟩ := at_raw HRAW.out HBW.out k (by rw [← HL.out]; exact hkn)
      have hst := HST.out k hlt
      rw [hrow] at hst
      have HST1 := Lib.hid hst
      have HKY : Hid (keyOf Tryz.prog 9 (.string (rdOf ByteArray.empty ks (k : Int))) = some (keyL (rdOf ByteArray.empty ks (k : Int)))) := Lib.hid (WideMaps.keyOf_string_mk Tryz.underlying9 (HSZ.out k hkn))
      have hkm : k < maxLen := by omega
      clear hst hrow hkn hmax
      generalize rdOf ByteArray.empty ks (k : Int) = s at *
      have hw : wrap64 ((k : Int) + 1) = ((k + 1 : Nat) : Int) := by unfold wrap64; omega
      go_wp2_with (first | (at_mapUpdate; refine wpList_mapUpdate_own _ rfl _ _ _ 87 rfl 9 28 (string_keyed Tryz.underlying9) Tryz.underlying87 rawR W1.heap.size k (mapUp kr k) rfl HO.out hkm _ _ (keyL s) rfl rfl HKY.out (.held (.agg #[a0, a1, a2, a3, a4, a5, a6])) [] rfl ?_; intro w5 hown5 hg5))
      go_roundw
      case rel => exact ⟨k + 1, hlt, by go_num, Lib.hid (by rw [HST1.out]; exact hown5), Lib.hid (HB.out.grown hg5 HB.out.size (by intro q hq; cases hq; exact Nat.le_refl _))⟩
      case measure => show n - (k + 1) < n - k; omega
    · obtain rfl : k = n := by omega
      have hlt2 : ¬ (k : Int) < (k : Int) := by omega
      have hOK := HO.out
      rw [← HKL.out] at hOK
      have HKS : Hid (∀ ss : List (List UInt8), ss.Perm (strKeys (mapUp kr kr.length)) → (skeys ss).Pairwise (fun a b => sless a b = true) ∧ ∀ j, j ∈ skeys ss ↔ ∃ p ∈ kr, p.1 = j) := Lib.hid (fun ss hp => keys_sorted hOK hp)
      have HSK : Hid (∀ ss : List (List UInt8), ss.Perm (strKeys (mapUp kr kr.length)) → ss.length ≤ k) := Lib.hid (fun ss hp => by
       have h1 := HO.out.size_le
       rw [hp.length_eq]
       have h2 : (strKeys (mapUp kr kr.length)).length = Maps.size (mapUp kr kr.length) := by
        obtain ⟨es, he⟩ := hOK.isMap
        rw [he]
        simp [strKeys, Maps.size]
       rw [h2, HKL.out]
       exact h1)
      have HSRT := Lib.hid (callsIn_wide.1 (Tryz.slices_Sorted_keys_67_68 W1.heap.size kr.length (mapUp kr kr.length) rawR wr hOK (Nat.le_trans hOK.size_le (by rw [HKL.out]; omega)) (by have := hOK.size_le; rw [HKL.out] at this ⊢; omega)))
      have HMK := Lib.hid (callsIn_wide.1 (Tryz.maps_Keys_68 (some W1.heap.size) wr))
      clear hOK hmax
      go_wp2_with (first
       | (go_at_call 68; (with_reducible refine (HMK.out).mono ?_); rintro e w3 ⟨rfl, rfl⟩)
       | (go_at_call 67; (with_reducible refine (HSRT.out).mono ?_); rintro e w4 ⟨v, ss, rfl, hS, hrow, -, hB4⟩; have HR4 := sorted_R hrow; obtain ⟨G, g, rfl⟩ := Kd.R_slice HR4; have HR4 := Lib.hid HR4; have HS := Lib.hid hS; have HB4 := Lib.hid hB4; clear hS hrow hB4; obtain ⟨hcz, hfz⟩ := bcells (blk_new w4 (.cells #[.int .i64 0, .bool false, .slice none 0 0, .int .i64 0, .string ⟨#[]⟩, .slice none 0 0, .slice none 0 0] 28)) (Below.refl _ _)))
      obtain ⟨hpw, hmm⟩ := HKS.out ss HS.out
      have hml := HSK.out ss HS.out
      rw [← skeys_len] at hml
      have HROW : Hid (∀ j ∈ skeys ss, ∃ a0 a1 a2 a3 a4 a5 a6, rowOf ks rows j = [a0, a1, a2, a3, a4, a5, a6] ∧ (∀ u ∈ [a0, a1, a2, a3, a4, a5, a6], u.oneCell' = true) ∧ k28.K w (valOf ks l j) [a0, a1, a2, a3, a4, a5, a6] ∧ j.size ≤ maxLen ∧ lastUp kr j kr.length = some (.agg #[a0, a1, a2, a3, a4, a5, a6])) := Lib.hid (fun j hj => by
       have hrl : (aggs rows).length = ks.length := by
        have := HKL.out
        rw [HKR.out, List.length_zip] at this
        have h2 := HN.out
        have h3 := (HRAW.out).1
        have h4 := HL.out
        unfold aggs
        rw [List.length_map]
        omega
       have hjk : j ∈ ks := (zip_key hrl).1 (HKR.out ▸ (hmm j).1 hj)
       obtain ⟨q1, q2, q3⟩ := HRK.out j ((zip_key HL.out.symm).2 hjk)
       have q4 := k28.K_len q1
       have q5 := k28.K_one q1
       obtain ⟨a0, a1, a2, a3, a4, a5, a6, e⟩ := list7 (show (rowOf ks rows j).length = 7 from q4)
       rw [e] at q1 q3 q5
       refine ⟨a0, a1, a2, a3, a4, a5, a6, e, q5, q1, ?_, ?_⟩
       · obtain ⟨i, hi, rfl⟩ := List.mem_iff_getElem.1 hjk
         have := HSZ.out i hi
         unfold rdOf at this
         simpa [hi] using this
       · rw [HKL.out, HN.out, HKR.out]
         exact q3)
      have HOBJ : Hid ((skeys ss).zip ((skeys ss).map (valOf ks l)) = kvs ks l) := Lib.hid (obj_of_keys (ks.zip l) (skeys ss) ((skeys ss).map (valOf ks l)) (by rw [List.length_map]) hpw (fun j => by
       have hrl : (aggs rows).length = ks.length := by
        have := HKL.out
        rw [HKR.out, List.length_zip] at this
        have h2 := HN.out
        have h3 := (HRAW.out).1
        have h4 := HL.out
        unfold aggs
        rw [List.length_map]
        omega
       rw [hmm j, HKR.out, zip_key hrl, zip_key HL.out.symm]) (fun i h1 h2 => by
       have hjk : (∃ p ∈ ks.zip l, p.1 = (skeys ss)[i]) := by
        have hrl : (aggs rows).length = ks.length := by
         have := HKL.out
         rw [HKR.out, List.length_zip] at this
         have h2 := HN.out
         have h3 := (HRAW.out).1
         have h4 := HL.out
         unfold aggs
         rw [List.length_map]
         omega
        exact (zip_key HL.out.symm).2 ((zip_key hrl).1 (HKR.out ▸ (hmm _).1 (List.getElem_mem h1)))
       have := (HRK.out _ hjk).2.1
       have hz : (ks.zip l).length = ks.length := by rw [List.length_zip]; have := HL.out; omega
       rw [hz, this, List.getElem_map]))
      generalize hsk : skeys ss = sk at *
      obtain ⟨m, hm⟩ : ∃ m, m = sk.length := ⟨_, rfl⟩
      obtain ⟨W5, hW5⟩ : ∃ W5, W5 = w4.alloc (.cells #[.int .i64 6, .bool false, .slice none 0 0, .int .i64 0, .string ⟨#[]⟩, .slice none 0 0, .slice G sk.length g] 28) := ⟨_, rfl⟩
      have hx5 := blk_new w4 (.cells #[.int .i64 6, .bool false, .slice none 0 0, .int .i64 0, .string ⟨#[]⟩, .slice none 0 0, .slice G sk.length g] 28)
      rw [← hW5] at hx5 ⊢
      have HMID0 : Hid (ObjMid w4 W5 w4.heap.size (.slice G sk.length g) (.slice none 0 0) []) := Lib.hid ⟨hx5, Kd.R_nil _ _ _ _ _, by rw [hW5]; exact (Below.refl _ _).alloc (Nat.le_refl _) _⟩
      have HM := Lib.hid hm
      have hB34 := HB4.out
      rw [World.size_alloc] at hB34
      have HB34 : Hid (Below wr.heap.size wr w4) := Lib.hid (((Below.refl _ _).alloc (Nat.le_refl _) _).trans (hB34.mono (Nat.le_succ _)))
      have HKC : Hid (Kd.string.C w4 G sk.length sk) := Lib.hid (Kd.R_reads' HR4.out).2.2
      have HKG : Hid (sk.length ≤ g) := Lib.hid (Kd.R_reads' HR4.out).2.1
      rw [← hm] at hml ⊢
      clear hsk hm hW5 hx5 hpw hmm hcz hfz HKS HSK HSRT HMK hB34 hlt hlt2 hk HST HSZ HRK
      go_loopw [40] (fun vi wq => ∃ (t : Nat) (v : Value), t ≤ m ∧ vi = .int .i64 t ∧ Hid (ObjMid w4 wq w4.heap.size (.slice G m g) v ((sk.take t).map (rowOf ks rows)))) (fun vi _ => m - (intOf vi).toNat)
      case atStart => exact ⟨0, .slice none 0 0, Nat.zero_le _, rfl, Lib.hid (by rw [HM.out]; exact HMID0.out)⟩
      case round =>
       obtain ⟨t, v, ht, rfl, HMD⟩ := hrel
       have hg4 := blk_lt HMD.out.box
       by_cases hlt : t < m
       · have hlt2 : (t : Int) < (m : Int) := by omega
         have ht0 : (0 : Int) ≤ (t : Int) := by omega
         obtain ⟨GV, gv, hgv⟩ := Kd.R_slice HMD.out.row
         have hrows : ((sk.take t).map (rowOf ks rows)).length = t := by rw [List.length_map, List.length_take, ← HM.out]; omega
         rw [hrows] at hgv
         subst hgv
         have htk : t < sk.length := by rw [← HM.out]; exact hlt
         have hmem : rdOf ByteArray.empty sk (t : Int) ∈ sk := by unfold rdOf; simp [htk]
         obtain ⟨ad, rfl, hx⟩ := Kd.at_string (Kd.C_below HKC.out HMD.out.bel) (t : Int) (by omega) (by omega)
         rw [Int.toNat_natCast] at hx
         obtain ⟨a0, a1, a2, a3, a4, a5, a6, hrow, hone, -, hsz, hlast⟩ := HROW.out _ hmem
         have hnx : (sk.take t).map (rowOf ks rows) ++ [[a0, a1, a2, a3, a4, a5, a6]] = (sk.take (t + 1)).map (rowOf ks rows) := by
          rw [List.take_succ_eq_append_getElem htk, List.map_append, ← hrow]
          unfold rdOf
          simp [htk]
         have hlook := map_look (by rw [HKL.out]; exact owns_below HO.out (HB34.out.trans (HMD.out.bel.mono HB34.out.size)) HO.out.lt) hsz hlast
         obtain ⟨hcb, hfb⟩ := bcells HMD.out.box (Below.refl _ _)
         have hw : wrap64 ((t : Int) + 1) = ((t + 1 : Nat) : Int) := by unfold wrap64; omega
         have HNX := Lib.hid hnx
         have HONE := Lib.hid hone
         have HRL : Hid ((((sk.take t).map (rowOf ks rows)).length + 1) * 112 ≤ 140737488355328) := Lib.hid (by rw [hrows]; omega)
         have HLN : Hid (((sk.take t).map (rowOf ks rows) ++ [[a0, a1, a2, a3, a4, a5, a6]]).length = t + 1) := Lib.hid (by rw [List.length_append, hrows]; rfl)
         have HG4 := Lib.hid hg4
         clear hrow hone hsz hlast hnx hrows htk hmem hg4
         generalize rdOf ByteArray.empty sk (t : Int) = s at *
         go_wp2_with (first | (at_builtin; refine Kd.R_append (Kd.raw 7) (w0 := wr) (w4.heap.size + 1) rfl (.tmp 45) (.tmp 49) 25 28 (.agg #[.int .i64 0, .bool false, .slice none 0 0, .int .i64 0, .string ⟨#[]⟩, .slice none 0 0, .slice none 0 0]) 112 rfl Tryz.underlying25 infoV_ rfl (by decide) (by decide) _ _ [a0, a1, a2, a3, a4, a5, a6] [a0, a1, a2, a3, a4, a5, a6] (fun _ => True) (fun _ => False) rfl rfl ⟨rfl, rfl, HONE.out⟩ (fun _ h => h.elim) (fun _ _ => trivial) HMD.out.row (Below.refl _ _) HG4.out HRL.out ?_; intro v1 w7 hR7 hB7 hg7 hat7; have HS7 := Lib.hid (HMD.out.step hR7 hB7); have hx7 := (hB7.block _ (Nat.lt_succ_self _)).trans HMD.out.box; obtain ⟨hc7, hf7⟩ := bcells hx7 (Below.refl _ _); obtain ⟨G7, g7, hv7⟩ := Kd.R_slice hR7; rw [HLN.out] at hv7; subst hv7; clear hR7 hB7 hg7 hat7 hx7))
         go_roundw
         case rel => exact ⟨t + 1, _, hlt, by go_num, Lib.hid (by rw [← HNX.out]; exact HS7.out)⟩
         case measure => show m - (t + 1) < m - t; omega
       · obtain rfl : t = m := by omega
         have hlt2 : ¬ (t : Int) < (t : Int) := by omega
         have hgv := Kd.R_slice HMD.out.row
         obtain ⟨GV, gv, hgv⟩ := hgv
         have hrows : ((sk.take t).map (rowOf ks rows)).length = t := by rw [List.length_map, List.length_take, ← HM.out]; omega
         rw [hrows] at hgv
         subst hgv
         have htl : sk.take t = sk := by rw [HM.out]; exact List.take_length
         have hrd := Kd.R_reads' HMD.out.row
         rw [htl] at hrd
         have hzip := HOBJ.out
         have h4r := HMD.out.bel
         have hw4 : Below w.heap.size w w4 := HBW.out.trans (HB34.out.mono HBW.out.size)
         have hwr : Below w.heap.size w wr := hw4.trans (h4r.mono hw4.size)
         have hlk : (kvs ks l).map Prod.fst = sk := by rw [← hzip]; exact List.map_fst_zip (by rw [List.length_map]; omega)
         have hlv : (kvs ks l).map Prod.snd = sk.map (valOf ks l) := by rw [← hzip]; exact List.map_snd_zip (by rw [List.length_map]; omega)
         have hK : k28.K wr (objRaw ks l) [.int .i64 6, .bool false, .slice none 0 0, .int .i64 0, .string ⟨#[]⟩, .slice GV t gv, .slice G t g] := by
          have h3 : (objRaw ks l).f3 = sk.map (valOf ks l) := hlv
          have h4 : (objRaw ks l).f4 = sk := hlk
          have e3 : (objRaw ks l).f3.length = t := by rw [h3, List.length_map, ← HM.out]
          have e4 : (objRaw ks l).f4.length = t := by rw [h4, ← HM.out]
          have hC3 : k28.C wr GV t (sk.map (valOf ks l)) := by
           have h0 := hrd.2.2
           rw [List.length_map, ← HM.out] at h0
           refine raw_to_V h0 (by rw [List.length_map, List.length_map]) (fun j x c hx hc => ?_)
           rw [List.getElem?_map] at hx hc
           cases hj : sk[j]? with
           | none => rw [hj] at hx; cases hx
           | some s =>
            rw [hj] at hx hc
            obtain rfl := Option.some.inj hx
            obtain rfl := Option.some.inj hc
            obtain ⟨a0, a1, a2, a3, a4, a5, a6, hrow, -, hk, -⟩ := HROW.out s (List.mem_of_getElem? hj)
            rw [hrow]
            exact k28.K_below hwr hk
          have h := k28_mk wr (objRaw ks l) (A2 := none) (c2 := 0) (Nat.zero_le 0) (Kd.C_nil _ _) (A5 := GV) (c5 := gv) (by rw [e3]; have := hrd.2.1; exact this) (by rw [h3, List.length_map, ← HM.out]; exact hC3) (A6 := G) (c6 := g) (by rw [h4]; exact HKG.out) (by rw [h4]; exact Kd.C_below HKC.out h4r)
          rw [e3, e4] at h
          exact h
         have HWH := Lib.hid (Whole_any (objRaw ks l) _ 0 wr (HLD.out.below hwr) hK HOK.out)
         have HWR := Lib.hid hwr
         have HX1r : Hid (wr.heap[w.heap.size]? = some (.cells #[.int .i64 0, .bool false, .slice none 0 0, .int .i64 0, .string ⟨#[]⟩, .slice none 0 0, .slice none 0 0] 28 (0, 0))) := Lib.hid ((h4r.block _ (by have := HBW.out.size; have := HB34.out.size; have := HO.out.lt; have := HS1.out; omega)).trans (blk_below2 (blk_below2 HX1.out HB.out) HB34.out))
         have HEQ : Hid (wholeE (objRaw ks l) 0 = objE ks l) := Lib.hid (by rw [HOE.out]; unfold wholeE orL; rw [if_pos rfl]; unfold orL; split <;> simp_all [orL])
         have HVQ : Hid (wholeV (objRaw ks l) 0 = objV ks l) := Lib.hid (by unfold wholeV objV; rw [HEQ.out])
         obtain ⟨hcb, hfb⟩ := bcells HMD.out.box (Below.refl _ _)
         have HGW : Hid (w.heap.size < wr.heap.size) := Lib.hid (blk_lt HX1r.out)
         clear hrows htl hrd hzip h4r hw4 hwr hlk hlv hK hlt hlt2 ht hg4
         go_wp2_with (go_at_call 69; (with_reducible refine (HWH.out).mono ?_); rintro e w8 ⟨cs8, rfl, hM8, hB8⟩; rw [HEQ.out]; rw [HVQ.out] at hM8; have HM8 := Lib.hid hM8; obtain ⟨v2, v5, v6, rfl, r2, r5, r6⟩ := k28_openM hM8; obtain ⟨E2, s2, rfl⟩ := Kd.R_slice r2; obtain ⟨E5, s5, rfl⟩ := Kd.R_slice r5; obtain ⟨E6, s6, rfl⟩ := Kd.R_slice r6; have HX8 := Lib.hid (blk_below2 HX1r.out hB8); obtain ⟨hc8, hf8⟩ := bcells HX1r.out hB8; have HB8 := Lib.hid (HWR.out.trans (hB8.mono HWR.out.size)); clear hM8 r2 r5 r6 hB8)
         obtain ⟨X, hX⟩ : ∃ X, X = ((((((w8.setCell ⟨w.heap.size, 0, none⟩ (.int .i64 (objV ks l).f0)).setCell ⟨w.heap.size, 1, none⟩ (.bool (objV ks l).f1.f0)).setCell ⟨w.heap.size, 2, none⟩ (.slice E2 (objV ks l).f1.f1.length s2)).setCell ⟨w.heap.size, 3, none⟩ (.int .i64 (objV ks l).f1.f2)).setCell ⟨w.heap.size, 4, none⟩ (.string (objV ks l).f2)).setCell ⟨w.heap.size, 5, none⟩ (.slice E5 (objV ks l).f3.length s5)).setCell ⟨w.heap.size, 6, none⟩ (.slice E6 (objV ks l).f4.length s6) := ⟨_, rfl⟩
         obtain ⟨hfx, hm, hbw⟩ := into_box HM8.out HGW.out HX8.out rfl hX
         rw [← hX]
         have HFIN := Lib.hid (HPP.out _ X (k28.M_lower (Nat.le_of_lt HGW.out) hm) (HB8.out.trans (hbw _ (Nat.le_refl _))))
         clear hX hm hbw hc8 hf8 hcb hfb
         have hrc := blk_cell hfx
         refine bodyPost_ret (v := .tuple #[.agg #[.int .i64 (objV ks l).f0, .bool (objV ks l).f1.f0, .slice E2 (objV ks l).f1.f1.length s2, .int .i64 (objV ks l).f1.f2, .string (objV ks l).f2, .slice E5 (objV ks l).f3.length s5, .slice E6 (objV ks l).f4.length s6], .int .i64 (objE ks l)]) ?_ rfl HFIN.out
         simp [results, Tryz.f22, go_sem, hrc]
 · have hOE : objE ks l = 3 := if_neg hlen
   have hOV : objV ks l = zeroV := if_neg (by rw [hOE]; decide)
   have HPP : Hid (∀ W, Below w.heap.size w W → ObjPost ks l w (.returned (.tuple #[.agg #[.int .i64 0, .bool false, .slice none 0 0, .int .i64 0, .string ⟨#[]⟩, .slice none 0 0, .slice none 0 0], .int .i64 3])) W) := Lib.hid (fun W h2 => ⟨_, by rw [hOE], by rw [hOV]; exact zero_M W _, h2⟩)
   have hne : ((ks.length : Int) != (l.length : Int)) = true := by simp; omega
   generalize hPE : ObjPost ks l w = P at *
   clear hPE hA hB hO hks hn1 hlen hOE hOV hLD
   obtain ⟨hcz, hfz⟩ := bcells (blk_new w (.cells #[.int .i64 0, .bool false, .slice none 0 0, .int .i64 0, .string ⟨#[]⟩, .slice none 0 0, .slice none 0 0] 28)) (Below.refl _ _)
   go_enter Tryz.func22, Tryz.ntmps22
   go_wp2
   have hrc := blk_cell (blk_new w (.cells #[.int .i64 0, .bool false, .slice none 0 0, .int .i64 0, .string ⟨#[]⟩, .slice none 0 0, .slice none 0 0] 28))
   refine bodyPost_ret (v := .tuple #[.agg #[.int .i64 0, .bool false, .slice none 0 0, .int .i64 0, .string ⟨#[]⟩, .slice none 0 0, .slice none 0 0], .int .i64 3]) ?_ rfl (HPP.out _ ((Below.refl _ _).alloc (Nat.le_refl _) _))
   simp [results, Tryz.f22, go_sem, hrc]
end Go.Proofs.YthigbklhngihkaaGreatDoor.P
namespace Go.Proofs.YthigbklhngihkaaGreatDoor.P
open Go.RowKit Go.Proofs.YthigbklhngihkaaGreatDoorW.PrintWords Go.Proofs.YthigbklhngihkaaGreatDoorW.PrintMore Go.Proofs.YthigbklhngihkaaGreatDoorW.PrintLast
theorem flat7 : ∀ (rows : List (List Value)) (j i : Nat) (c : List Value), (∀ r ∈ rows, r.length = 7) → rows[j]? = some c → i < 7 → rows.flatten[j * 7 + i]? = c[i]?
 | [], j, i, c, _, h, _ => by simp at h
 | r :: rows, 0, i, c, h7, h, hi => by
  obtain rfl := Option.some.inj h
  have := h7 r List.mem_cons_self
  rw [List.flatten_cons, List.getElem?_append_left (by omega)]
  simp
 | r :: rows, j + 1, i, c, h7, h, hi => by
  have := h7 r List.mem_cons_self
  rw [List.flatten_cons, List.getElem?_append_right (by omega), show (j + 1) * 7 + i - r.length = j * 7 + i by omega]
  exact flat7 rows j i c (fun q hq => h7 q (List.mem_cons_of_mem _ hq)) (by simpa using h) hi
theorem many_C {w0 w : World} {l : List V} {rows : List (List Value)} {t : Nat} (hl : l.length = rows.length) (hb : Below w0.heap.size w0 w) (hK : ∀ (j : Nat) (x : V) (c : List Value), l[j]? = some x → rows[j]? = some c → k28.K w0 x c) (hn : l.length ≤ 1048576) :
 k28.C (w.alloc (.cells rows.flatten.toArray t)) (some ⟨w.heap.size, 0, none⟩) l.length l := by
 have h7 : ∀ r ∈ rows, r.length = 7 := fun r hr => by
  obtain ⟨j, hj, rfl⟩ := List.mem_iff_getElem.1 hr
  exact k28.K_len (hK j (l[j]'(by omega)) _ (List.getElem?_eq_getElem _) (List.getElem?_eq_getElem hj))
 refine ⟨rfl, Nat.le_trans hn (by decide), fun _ => ⟨_, rfl, fun j p hj => ?_⟩⟩
 have hjl : j < rows.length := by have := (List.getElem?_eq_some_iff.1 hj).1; omega
 have hk := hK j p _ hj (List.getElem?_eq_getElem hjl)
 have hk7 := k28.K_len hk
 refine ⟨rows[j], hk7, k28.K_below (hb.alloc hb.size _) hk, fun i u hu => ?_⟩
 have hi : i < 7 := by have := (List.getElem?_eq_some_iff.1 hu).1; have : rows[j].length = 7 := hk7; omega
 rw [Addr.add_mid, Nat.zero_add, blk_cell (blk_new w _), List.getElem?_toArray]
 exact (flat7 rows j i _ h7 (List.getElem?_eq_getElem hjl) hi).trans hu
theorem texts_C {w : World} {l : List ByteArray} {t : Nat} (hn : l.length ≤ 1048576) :
 Kd.string.C (w.alloc (.cells (l.map Value.string).toArray t)) (some ⟨w.heap.size, 0, none⟩) l.length l := by
 refine ⟨rfl, Nat.le_trans hn (by decide), fun _ => ⟨_, rfl, fun j p hj => ⟨[.string p], rfl, rfl, fun i u hu => ?_⟩⟩⟩
 cases i with
 | succ i => simp at hu
 | zero =>
  simp at hu
  subst hu
  rw [Addr.add_mid, Nat.zero_add, blk_cell (blk_new w _), List.getElem?_toArray]
  show (l.map Value.string)[j * 1 + 0]? = _
  rw [Nat.mul_one, Nat.add_zero, List.getElem?_map, hj]
  rfl
theorem num5_any (n : Int) (W : World) : Calls Tryz.prog 17 #[.int .i64 n] W fun e w' => e = .returned (.int .i64 n) ∧ w' = W := by
 go_enter Tryz.func17, Tryz.ntmps17
 go_wp2
 go_ret
 exact ⟨rfl, rfl⟩
def kV (n : Int) : V := ⟨n, ⟨false, [], 0⟩, ⟨#[]⟩, [], []⟩
def exK : List ByteArray := [⟨#[98]⟩, ⟨#[97]⟩, ⟨#[98]⟩]
def exL : List V := [kV 1, kV 2, kV 0]
theorem ex_E : objE exK exL = 0 := by decide +kernel
theorem ex_keys : (objV exK exL).f4 = [⟨#[97]⟩, ⟨#[98]⟩] := by decide +kernel
theorem ex_ask : vask2 num0 (txtV ⟨#[]⟩) = 0 := by decide +kernel
theorem ex_cmp : vcmp num0 (txtV ⟨#[]⟩) = -1 := by decide +kernel
theorem kV_K (n : Int) (W : World) : k28.K W (kV n) [.int .i64 n, .bool false, .slice none 0 0, .int .i64 0, .string ⟨#[]⟩, .slice none 0 0, .slice none 0 0] :=
 k28_mk W (kV n) (Nat.zero_le 0) (Kd.C_nil _ _) (Nat.zero_le 0) (Kd.C_nil _ _) (Nat.zero_le 0) (Kd.C_nil _ _)
theorem okV_kV {n : Int} (h : (Lit.int .i64 n).wf = true) : OkV (kV n) :=
 OkV.mk _ h (fun m hm => absurd hm (by unfold kV; simp)) (by show (Lit.int .i64 0).wf = true; rfl) (by show (0 : Nat) ≤ 1073741824; decide) (fun n hn => absurd hn (by unfold kV; simp)) (by unfold kV; simp) (by unfold kV; simp) (by unfold kV; simp) (fun y hy => absurd hy (by unfold kV; simp))
theorem okV_ex : ∀ x ∈ exL, OkV x := fun x hx => by
 unfold exL at hx
 simp only [List.mem_cons, List.mem_nil_iff, or_false] at hx
 rcases hx with rfl | rfl | rfl <;> exact okV_kV rfl
theorem okV_num0 : OkV num0 :=
 OkV.mk _ (by show (Lit.int .i64 3).wf = true; rfl) (fun m hm => absurd hm (by unfold num0; simp)) (by show (Lit.int .i64 0).wf = true; rfl) (by show (0 : Nat) ≤ 1073741824; decide) (fun n hn => absurd hn (by unfold num0; simp)) (by unfold num0; simp) (by unfold num0; simp) (by unfold num0; simp) (fun y hy => absurd hy (by unfold num0; simp))
theorem okV_txt {s : ByteArray} (h : s.size ≤ 1073741824) : OkV (txtV s) :=
 OkV.mk _ (by show (Lit.int .i64 4).wf = true; rfl) (fun m hm => absurd hm (by unfold txtV; simp)) (by show (Lit.int .i64 0).wf = true; rfl) h (fun n hn => absurd hn (by unfold txtV; simp)) (by unfold txtV; simp) (by unfold txtV; simp) (by unfold txtV; simp) (fun y hy => absurd hy (by unfold txtV; simp))
theorem ex_at {W : World} {ad : Addr} {a b : ByteArray} (h : W.cell? (ad.add (0 : Int).toNat) = some (.string (rdOf ⟨#[]⟩ [a, b] (0 : Int)))) : W.cell? ad = some (.string a) := by
 have e : ad.add (0 : Int).toNat = ad := by cases ad; rfl
 rw [e] at h
 exact h
theorem ex_Object (W : World) (hLD : LaidW W) (W2 : World) (hW2 : W2 = (W.alloc (.cells #[.string ⟨#[98]⟩, .string ⟨#[97]⟩, .string ⟨#[98]⟩] 9)).alloc (.cells #[.int .i64 1, .bool false, .slice none 0 0, .int .i64 0, .string ⟨#[]⟩, .slice none 0 0, .slice none 0 0, .int .i64 2, .bool false, .slice none 0 0, .int .i64 0, .string ⟨#[]⟩, .slice none 0 0, .slice none 0 0, .int .i64 0, .bool false, .slice none 0 0, .int .i64 0, .string ⟨#[]⟩, .slice none 0 0, .slice none 0 0] 28)) :
 Calls Tryz.prog 22 #[.slice (some ⟨W.heap.size, 0, none⟩) 3 3, .slice (some ⟨W.heap.size + 1, 0, none⟩) 3 3] W2 (fun e w' => ∃ cs : List Value, e = .returned (.tuple #[.agg cs.toArray, .int .i64 0]) ∧ k28.M w' W2.heap.size (fun _ => True) (objV exK exL) cs ∧ Below W.heap.size W w') := by
 have hB : Below W.heap.size W W2 := by rw [hW2]; exact ((Below.refl _ _).alloc (Nat.le_refl _) _).alloc (by simp) _
 have hA : Kd.string.C W2 (some ⟨W.heap.size, 0, none⟩) exK.length exK := by
  rw [hW2]
  exact Kd.C_alloc (texts_C (w := W) (l := exK) (t := 9) (by decide)) _
 have hL : k28.C W2 (some ⟨W.heap.size + 1, 0, none⟩) exL.length exL := by
  rw [hW2]
  have := many_C (w0 := W) (w := W.alloc (.cells #[.string ⟨#[98]⟩, .string ⟨#[97]⟩, .string ⟨#[98]⟩] 9)) (l := exL) (rows := [[.int .i64 1, .bool false, .slice none 0 0, .int .i64 0, .string ⟨#[]⟩, .slice none 0 0, .slice none 0 0], [.int .i64 2, .bool false, .slice none 0 0, .int .i64 0, .string ⟨#[]⟩, .slice none 0 0, .slice none 0 0], [.int .i64 0, .bool false, .slice none 0 0, .int .i64 0, .string ⟨#[]⟩, .slice none 0 0, .slice none 0 0]]) (t := 28) rfl ((Below.refl _ _).alloc (Nat.le_refl _) _) (fun j x c hx hc => by
   rcases j with _ | _ | _ | j
   · obtain rfl := Option.some.inj hx; obtain rfl := Option.some.inj hc; exact kV_K 1 W
   · obtain rfl := Option.some.inj hx; obtain rfl := Option.some.inj hc; exact kV_K 2 W
   · obtain rfl := Option.some.inj hx; obtain rfl := Option.some.inj hc; exact kV_K 0 W
   · simp at hc) (by decide)
  rw [World.size_alloc] at this
  exact this
 have h := Object_any exK exL (some ⟨W.heap.size, 0, none⟩) 3 (some ⟨W.heap.size + 1, 0, none⟩) 3 W2 (hLD.below hB) hA hL okV_ex (fun k hk => by
  unfold exK at hk
  simp only [List.mem_cons, List.mem_nil_iff, or_false] at hk
  rcases hk with rfl | rfl | rfl <;> decide) (by decide)
 refine h.mono ?_
 rintro e w' ⟨cs, rfl, hM, hb⟩
 exact ⟨cs, by rw [ex_E], hM, hB.trans (hb.mono hB.size)⟩
set_option maxHeartbeats 4000000 in
theorem alive5_any (w : World) (hLD : LaidW w) : Calls Tryz.prog 15 #[] w fun e w' => e = .returned (.bool true) ∧ Below w.heap.size w w' := by
 have HN : Hid (∀ W, Calls Tryz.prog 19 #[.int .i64 0] W fun e w' => ∃ cs : List Value, e = .returned (.agg cs.toArray) ∧ k28.M w' W.heap.size (fun _ => True) num0 cs ∧ Below W.heap.size W w') := Lib.hid NumberP_zero
 have HT : Hid (∀ W, Calls Tryz.prog 27 #[.string ⟨#[]⟩] W fun e w' => ∃ cs : List Value, e = .returned (.agg cs.toArray) ∧ k28.M w' W.heap.size (fun _ => True) (txtV ⟨#[]⟩) cs ∧ Below W.heap.size W w') := Lib.hid (fun W => Text_any ⟨#[]⟩ W)
 have HC : Hid (∀ cs ds W, Below w.heap.size w W → k28.K W num0 cs → k28.K W (txtV ⟨#[]⟩) ds → Calls Tryz.prog 16 #[.agg cs.toArray, .agg ds.toArray] W fun e w' => e = .returned (.tuple #[.int .i64 (-1), .int .i64 0]) ∧ Below W.heap.size W w') := Lib.hid (fun cs ds W hW h1 h2 => by
  have h := VCompare_any num0 (txtV ⟨#[]⟩) cs ds W (hLD.below hW) h1 h2 okV_num0 (okV_txt (by decide))
  rw [ex_cmp, ex_ask] at h
  exact h)
 have HOB := Lib.hid (fun W (hW : Below w.heap.size w W) => ex_Object W (hLD.below hW) _ rfl)
 clear hLD
 go_enter Tryz.func15, Tryz.ntmps15
 go_wp2_with (first
  | (go_at_call 19; (with_reducible refine (HN.out _).mono ?_); rintro e w1 ⟨cs1, rfl, hM1, hB1⟩; have HM1 := Lib.hid hM1; have HB1 := Lib.hid hB1; obtain ⟨v2, v5, v6, rfl, r2, r5, r6⟩ := k28_openM hM1; clear hM1 hB1 r2 r5 r6)
  | (go_at_call 27; (with_reducible refine (HT.out _).mono ?_); rintro e w2 ⟨cs2, rfl, hM2, hB2⟩; have HM2 := Lib.hid hM2; have HB2 := Lib.hid hB2; obtain ⟨u2, u5, u6, rfl, r2, r5, r6⟩ := k28_openM hM2; clear hM2 hB2 r2 r5 r6)
  | (go_at_call 16; (with_reducible refine (HC.out _ _ w2 (HB1.out.trans (HB2.out.mono HB1.out.size)) (k28.K_below HB2.out (k28.K_of_M HM1.out)) (k28.K_of_M HM2.out)).mono ?_); rintro e w3 ⟨rfl, hB3⟩; have HB3 := Lib.hid ((HB1.out.trans (HB2.out.mono HB1.out.size)).trans (hB3.mono (Nat.le_trans HB1.out.size HB2.out.size))); clear hB3)
  | (go_at_call 22; (with_reducible refine (HOB.out w3 HB3.out).mono ?_); rintro e w4 ⟨cs4, rfl, hM4, hB4⟩; have HM4 := Lib.hid hM4; have HB4 := Lib.hid (HB3.out.trans (hB4.mono HB3.out.size)); obtain ⟨z2, z5, z6, rfl, r2, r5, r6⟩ := k28_openM hM4; obtain ⟨E2, s2, rfl⟩ := Kd.R_slice r2; obtain ⟨E5, s5, rfl⟩ := Kd.R_slice r5; obtain ⟨E6, s6, rfl⟩ := Kd.R_slice r6; have hk6 := (Kd.R_reads' r6).2.2; rw [ex_keys] at hk6 ⊢; obtain ⟨ad, rfl, hx⟩ := Kd.at_string hk6 (0 : Int) (by decide) (by decide); have hx := ex_at hx; have hxa := fun (o : Obj) => pw_cell_below ((Below.refl w4.heap.size w4).alloc (Nat.le_refl _) o) hx; clear hM4 hB4 r2 r5 r6 hk6; obtain ⟨hcz, hfz⟩ := bcells (blk_new w4 (.cells #[.int .i64 0, .bool false, .slice none 0 0, .int .i64 0, .string ⟨#[]⟩, .slice none 0 0, .slice none 0 0] 28)) (Below.refl _ _))
  | (go_at_call 17; (with_reducible refine (num5_any _ _).mono ?_); rintro e w5 ⟨rfl, rfl⟩))
 go_ret
 exact ⟨rfl, HB4.out.alloc HB4.out.size _⟩
end Go.Proofs.YthigbklhngihkaaGreatDoor.P
