/- Texts of this claim, one behind the other. -/
import Derived.Test.YtmfpakolfpoamaaGreatDoorMOrderKeepse
import Derived.Test.YtmfpakolfpoamaaGreatDoorRows
import Derived.ChangeArms
import Derived.ChangeSlices
import Derived.DataReads
import Derived.DataElems
namespace Go.Proofs.YtmfpakolfpoamaaGreatDoor.P
set_option linter.unusedVariables false
set_option linter.unusedSimpArgs false
open Go.RowKit Go.Proofs.YtmfpakolfpoamaaGreatDoorW.PrintWords Go.Proofs.YtmfpakolfpoamaaGreatDoorW.PrintMore
section
open _root_.Go.Proofs.YtmfpakolfpoamaaGreatDoor.Rows
theorem one_le_bulk {H : Type} (d : DataW H) : 1 ≤ uptoBulk d := by
 cases d with
 | lit l => cases l <;> simp [uptoBulk]
 | nil => simp [uptoBulk]
 | ptr d => simp [uptoBulk]
 | slice elems spare => simp [uptoBulk]
 | agg parts => simp [uptoBulk]
 | iface t d => simp [uptoBulk]
 | map entries => simp [uptoBulk]
 | held h => simp [uptoBulk]
theorem length_le_bulk {H : Type} (l : List (DataW H)) : l.length ≤ uptoBulkAll l := by
 induction l with
 | nil => simp [uptoBulkAll]
 | cons x r ih => have := one_le_bulk x; simp only [uptoBulkAll, List.length_cons]; omega
theorem mem_le_bulk {H : Type} {l : List (DataW H)} {d : DataW H} (h : d ∈ l) : uptoBulk d ≤ uptoBulkAll l := by
 induction l with
 | nil => simp at h
 | cons x r ih =>
  simp only [uptoBulkAll]
  rcases List.mem_cons.1 h with rfl | h
  · omega
  · have := ih h; omega
end
section
variable {H : Type} {enc : TypeId × Value → H} {P : Program} {w : World} {base : Nat} {spare : Nat → Bool} {held : Bool}
theorem open_row {α : Type} {d : Kd α} {okv : α → Prop} {t e : TypeId} {fuel : Nat} {cs : List Value} {x : DataW H × List MemPlace} (ht : P.underlying t = some (.slice e)) (hsz : d.sz = P.cellsOf e)
 (ih : ∀ n cs x, n < fuel → DataW.trod enc P w base spare held n e cs = some x → Rows.uptoBulk x.1 ≤ 1048576 → ∃ y : α, d.K w y cs ∧ okv y) (hbulk : Rows.uptoBulk x.1 ≤ 1048576) (h : DataW.trod enc P w base spare held fuel t cs = some x) :
 ∃ (A : Option Addr) (c : Nat) (ys : List α), cs = [.slice A ys.length c] ∧ ys.length ≤ c ∧ ys.length ≤ 1048576 ∧ d.C w A ys.length ys ∧ ∀ y ∈ ys, okv y := by
 rcases DataW.trod_slice ht h with ⟨rfl, _⟩ | ⟨a, len, cap, elems, rest, n, rfl, rfl, rfl, hb, hl, hm, hel0, hel, _, _⟩
 · exact ⟨none, 0, [], rfl, Nat.le_refl _, Nat.zero_le _, Kd.C_nil d w, fun y hy => by simp at hy⟩
 · have each : ∀ i, i < len → ∃ (cs : List Value) (y : α), w.cells? base (a.add (i * P.cellsOf e)) (P.cellsOf e) = some cs ∧ d.K w y cs ∧ okv y := fun i hi => by
    have h1 := hel i hi
    obtain ⟨z, hz⟩ : ∃ z, elems[i]? = some z := ⟨elems[i], List.getElem?_eq_getElem (by omega)⟩
    rw [hz, Option.bind_eq_some_iff] at h1
    obtain ⟨cs, h2, h3⟩ := h1
    obtain ⟨y, hy, hk⟩ := ih n cs z (Nat.lt_succ_self _) h3 (by
     have hm : z.1 ∈ elems.map (·.1) := List.mem_map_of_mem (List.mem_of_getElem? hz)
     have := mem_le_bulk hm
     replace hbulk : Rows.uptoBulk (DataW.slice (elems.map (·.1)) (rest.map (·.1))) ≤ 1048576 := hbulk
     rw [Rows.uptoBulk] at hbulk
     omega)
    exact ⟨cs, y, h2, hy, hk⟩
   have pick : ∀ m, m ≤ len → ∃ ys : List α, ys.length = m ∧ ∀ i y, ys[i]? = some y → (∃ cs, w.cells? base (a.add (i * P.cellsOf e)) (P.cellsOf e) = some cs ∧ d.K w y cs) ∧ okv y := by
    intro m
    induction m with
    | zero => exact fun _ => ⟨[], rfl, fun i y hy => by simp at hy⟩
    | succ m ihm =>
     intro hm
     obtain ⟨ys, hy1, hy2⟩ := ihm (by omega)
     obtain ⟨cs, y, h1, h2, h3⟩ := each m (by omega)
     refine ⟨ys ++ [y], by simp [hy1], fun i z hz => ?_⟩
     rcases Nat.lt_or_ge i m with hi | hi
     · rw [List.getElem?_append_left (by omega)] at hz
       exact hy2 i z hz
     · rw [List.getElem?_append_right (by omega), hy1] at hz
       have : i = m := by
        rcases Nat.lt_or_ge m i with h | h
        · rw [List.getElem?_eq_none (by simp; omega)] at hz; simp at hz
        · omega
       subst this
       simp at hz
       subst hz
       exact ⟨⟨cs, h1, h2⟩, h3⟩
   obtain ⟨ys, hy1, hy2⟩ := pick len (Nat.le_refl _)
   have hll : len ≤ 1048576 := by
    have := length_le_bulk (elems.map (·.1))
    rw [List.length_map, hel0] at this
    replace hbulk : Rows.uptoBulk (DataW.slice (elems.map (·.1)) (rest.map (·.1))) ≤ 1048576 := hbulk
    rw [Rows.uptoBulk] at hbulk
    omega
   refine ⟨some a, cap, ys, by rw [hy1], by omega, by omega, ⟨rfl, by unfold maxLen at hm; omega, fun _ => ⟨a, rfl, fun j p hj => ?_⟩⟩, fun y hy => ?_⟩
   · obtain ⟨⟨cs, h1, h2⟩, _⟩ := hy2 j p hj
     obtain ⟨_, h4, h5⟩ := World.cells?_some h1
     refine ⟨cs, by rw [hsz]; exact h4, h2, fun i u hu => ?_⟩
     have hi : i < P.cellsOf e := by have := (List.getElem?_eq_some_iff.1 hu).1; omega
     have := h5 i hi
     rw [hu] at this
     rw [← this, hsz, Addr.add_add]
   · obtain ⟨i, hi⟩ := List.getElem?_of_mem hy
     exact (hy2 i y hi).2
end
theorem field_at {H : Type} {enc : TypeId × Value → H} {P : Program} {w : World} {base : Nat} {spare : Nat → Bool} {held : Bool} {n : Nat} {cs : List Value} {xs : List (DataW H × List MemPlace)} {fs : Array Field}
 (hf : ∀ (i : Nat) (f : Field), fs[i]? = some f → DataW.trod enc P w base spare held n f.type ((cs.drop f.offset).take (P.cellsOf f.type)) = xs[i]?) (i t off k : Nat) (h : (fs[i]?).map (fun f => (f.type, f.offset)) = some (t, off)) (hk : P.cellsOf t = k) :
 DataW.trod enc P w base spare held n t ((cs.drop off).take k) = xs[i]? := by
 obtain ⟨f, h1, h2⟩ := Option.map_eq_some_iff.1 h
 simp only [Prod.mk.injEq] at h2
 obtain ⟨rfl, rfl⟩ := h2
 subst hk
 exact hf i f h1
section
variable {H : Type} {enc : TypeId × Value → H} {w : World} {base : Nat} {spare : Nat → Bool} {held : Bool}
theorem open_val : ∀ (fuel : Nat) (cs : List Value) (x : DataW H × List MemPlace), DataW.trod enc Tryz.prog w base spare held fuel 34 cs = some x → Rows.uptoBulk x.1 ≤ 1048576 → ∃ y : S34, k34.K w y cs ∧ OkV y := by
 intro fuel
 induction fuel using Nat.strongRecOn with
 | _ fuel ih =>
  intro cs x h hbulk
  obtain ⟨xs, n, rfl, rfl, hlen, hxl, hf⟩ := DataW.trod_struct Tryz.underlying34 h
  replace hbulk : Rows.uptoBulk (DataW.agg (xs.map (·.1))) ≤ 1048576 := hbulk
  rw [Rows.uptoBulk] at hbulk
  have part : ∀ (i : Nat) y, xs[i]? = some y → Rows.uptoBulk y.1 ≤ 1048576 := fun i y hy => by
   have := mem_le_bulk (List.mem_map_of_mem (f := (·.1)) (List.mem_of_getElem? hy))
   omega
  have hsz : Tryz.prog.cellsOf 34 = 7 := by kernel_rfl
  rw [hsz] at hlen
  obtain ⟨c0, c1, c2, c3, c4, c5, c6, rfl⟩ := list7 hlen
  have e3 : Tryz.prog.cellsOf 3 = 1 := by kernel_rfl
  have e24 : Tryz.prog.cellsOf 31 = 3 := by kernel_rfl
  have e9 : Tryz.prog.cellsOf 9 = 1 := by kernel_rfl
  have e25 : Tryz.prog.cellsOf 22 = 1 := by kernel_rfl
  have e26 : Tryz.prog.cellsOf 32 = 1 := by kernel_rfl
  have q0 : DataW.trod enc Tryz.prog w base spare held n 3 [c0] = xs[0]? := field_at hf 0 3 0 1 rfl e3
  have q1 : DataW.trod enc Tryz.prog w base spare held n 31 [c1, c2, c3] = xs[1]? := field_at hf 1 31 1 3 rfl e24
  have q2 : DataW.trod enc Tryz.prog w base spare held n 9 [c4] = xs[2]? := field_at hf 2 9 4 1 rfl e9
  have q3 : DataW.trod enc Tryz.prog w base spare held n 22 [c5] = xs[3]? := field_at hf 3 22 5 1 rfl e25
  have q4 : DataW.trod enc Tryz.prog w base spare held n 32 [c6] = xs[4]? := field_at hf 4 32 6 1 rfl e26
  obtain ⟨y0, g0⟩ : ∃ y, xs[0]? = some y := ⟨xs[0]'(by rw [hxl]; decide), List.getElem?_eq_getElem _⟩
  obtain ⟨y1, g1⟩ : ∃ y, xs[1]? = some y := ⟨xs[1]'(by rw [hxl]; decide), List.getElem?_eq_getElem _⟩
  obtain ⟨y2, g2⟩ : ∃ y, xs[2]? = some y := ⟨xs[2]'(by rw [hxl]; decide), List.getElem?_eq_getElem _⟩
  obtain ⟨y3, g3⟩ : ∃ y, xs[3]? = some y := ⟨xs[3]'(by rw [hxl]; decide), List.getElem?_eq_getElem _⟩
  obtain ⟨y4, g4⟩ : ∃ y, xs[4]? = some y := ⟨xs[4]'(by rw [hxl]; decide), List.getElem?_eq_getElem _⟩
  rw [g0] at q0
  rw [g1] at q1
  rw [g2] at q2
  rw [g3] at q3
  rw [g4] at q4
  obtain ⟨n0, p0, _, w0⟩ := DataW.trod_int Tryz.underlying3 q0
  obtain ⟨s, p2, hy2, _⟩ := DataW.trod_string Tryz.underlying9 q2
  have w2 : s.size ≤ 1073741824 := by
   have := part _ _ g2
   rw [hy2] at this
   replace this : Rows.uptoBulk (DataW.lit (.string s.data.toList) : DataW H) ≤ 1048576 := this
   rw [Rows.uptoBulk, Array.length_toList] at this
   have : s.size = s.data.size := rfl
   omega
  obtain ⟨zs, m, rfl, hy1, _, hzl, hz⟩ := DataW.trod_struct Tryz.underlying31 q1
  have e4 : Tryz.prog.cellsOf 4 = 1 := by kernel_rfl
  have e22 : Tryz.prog.cellsOf 29 = 1 := by kernel_rfl
  have r0 : DataW.trod enc Tryz.prog w base spare held m 4 [c1] = zs[0]? := field_at hz 0 4 0 1 rfl e4
  have r1 : DataW.trod enc Tryz.prog w base spare held m 29 [c2] = zs[1]? := field_at hz 1 29 1 1 rfl e22
  have r2 : DataW.trod enc Tryz.prog w base spare held m 3 [c3] = zs[2]? := field_at hz 2 3 2 1 rfl e3
  obtain ⟨z0, t0⟩ : ∃ y, zs[0]? = some y := ⟨zs[0]'(by rw [hzl]; decide), List.getElem?_eq_getElem _⟩
  obtain ⟨z1, t1⟩ : ∃ y, zs[1]? = some y := ⟨zs[1]'(by rw [hzl]; decide), List.getElem?_eq_getElem _⟩
  obtain ⟨z2, t2⟩ : ∃ y, zs[2]? = some y := ⟨zs[2]'(by rw [hzl]; decide), List.getElem?_eq_getElem _⟩
  rw [t0] at r0
  rw [t1] at r1
  rw [t2] at r2
  have hb1 := part _ _ g1
  rw [hy1] at hb1
  replace hb1 : Rows.uptoBulk (DataW.agg (zs.map (·.1))) ≤ 1048576 := hb1
  rw [Rows.uptoBulk] at hb1
  have hbz : Rows.uptoBulk z1.1 ≤ 1048576 := by
   have := mem_le_bulk (List.mem_map_of_mem (f := (·.1)) (List.mem_of_getElem? t1))
   omega
  obtain ⟨b, b0, _⟩ := DataW.trod_bool Tryz.underlying4 r0
  obtain ⟨ex, b2, _, w3⟩ := DataW.trod_int Tryz.underlying3 r2
  obtain ⟨A1, k1, co, b1, l1, m1, C1, ok1⟩ := open_row (d := Kd.int .u32) (okv := fun n => (Lit.int .u32 n).wf = true) Tryz.underlying29 (by kernel_rfl) (fun n cs x _ hx _ => by
   obtain ⟨v, rfl, _, hv⟩ := DataW.trod_int Tryz.underlying90 hx
   exact ⟨v, rfl, hv⟩) hbz r1
  obtain ⟨A3, k3, li, b3, l3, m3, C3, ok3⟩ := open_row (d := k34) (okv := OkV) Tryz.underlying22 (by rw [hsz]; rfl) (fun n cs x hn hx hb => ih n (by omega) cs x hx hb) (part _ _ g3) q3
  obtain ⟨A4, k4, ke, b4, l4, m4, C4, ok4⟩ := open_row (d := Kd.string) (okv := fun s => s.size ≤ 1073741824) Tryz.underlying32 (by kernel_rfl) (fun n cs x _ hx hb => by
   obtain ⟨v, rfl, rfl, hv⟩ := DataW.trod_string Tryz.underlying9 hx
   replace hb : Rows.uptoBulk (DataW.lit (.string v.data.toList) : DataW H) ≤ 1048576 := hb
   rw [Rows.uptoBulk, Array.length_toList] at hb
   exact ⟨v, rfl, by have : v.size = v.data.size := rfl; omega⟩) (part _ _ g4) q4
  simp only [List.cons.injEq, and_true] at p0 p2 b0 b1 b2 b3 b4
  subst p0 p2 b0 b1 b2 b3 b4
  exact ⟨⟨n0, ⟨b, co, ex⟩, s, li, ke⟩, k34_mk w ⟨n0, ⟨b, co, ex⟩, s, li, ke⟩ l1 C1 l3 C3 l4 C4, OkV.mk _ w0 ok1 w3 w2 ok4 (by simp only; omega) (by simp only; omega) (by simp only; omega) ok3⟩
end
end Go.Proofs.YtmfpakolfpoamaaGreatDoor.P
