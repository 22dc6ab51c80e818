import Derived.Test.YthigbklhngihkaaGreatDoorMValueKindsp
set_option linter.unusedVariables false
set_option linter.unusedSimpArgs false
set_option maxRecDepth 100000
namespace Go.Proofs.YthigbklhngihkaaGreatDoor.P
open Go.RowKit Go.Maps Go.Sort Go.Proofs.YthigbklhngihkaaGreatDoorW.PrintWords Go.Proofs.YthigbklhngihkaaGreatDoorW.PrintMore Go.Proofs.YthigbklhngihkaaGreatDoorW.PrintLast
def ObjPost (ks : List ByteArray) (l : List V) (w : World) (r : Ending) (w' : World) : Prop := ∃ cs : List Value, r = .returned (.tuple #[.agg cs.toArray, .int .i64 (objE ks l)]) ∧ k28.M w' w.heap.size (fun _ => True) (objV ks l) cs ∧ Below w.heap.size w w'
set_option maxHeartbeats 4000000 in
theorem Object_any (ks : List ByteArray) (l : List V) (A : Option Addr) (c : Nat) (B : Option Addr) (d : Nat) (w : World) (hLD : LaidW w) (hA : Kd.string.C w A ks.length ks) (hB : k28.C w B l.length l) (hO : ∀ x ∈ l, OkV x) (hks : ∀ k ∈ ks, k.size ≤ 1073741824) (hn1 : ks.length ≤ 1048576) :
 Calls Tryz.prog 22 #[.slice A ks.length c, .slice B l.length d] w (ObjPost ks l w) := by
 by_cases hlen : ks.length = l.length
 · obtain ⟨rows, hr1, hr2, hr3⟩ := Kd.reads_raw (sz := 7) hB (fun y c hk => ⟨k28.K_len hk, k28.K_one hk⟩)
   have hrl : rows.length = ks.length := by omega
   have HRAW : Hid ((Kd.raw 7).C w B l.length rows) := Lib.hid hr2
   have HKEYS := Lib.hid hA
   have HRK : Hid (∀ j, (∃ p ∈ ks.zip l, p.1 = j) → k28.K w (valOf ks l j) (rowOf ks rows j) ∧ lastUp (ks.zip l) j ks.length = some (valOf ks l j) ∧ lastUp (ks.zip (aggs rows)) j ks.length = some (.agg (rowOf ks rows j).toArray)) := Lib.hid (fun j hj => key_row hlen.symm hrl hr3 hj)
   have HOK := Lib.hid (okV_obj hO hks (by omega))
   have HSZ : Hid (∀ k : Nat, k < ks.length → (rdOf ByteArray.empty ks (k : Int)).size ≤ maxLen) := Lib.hid (fun k hk => by
    have : (rdOf ByteArray.empty ks (k : Int)).size ≤ 1073741824 := hks _ (by unfold rdOf; simp [hk])
    exact Nat.le_trans this (by decide))
   obtain ⟨n, hn⟩ : ∃ n, n = ks.length := ⟨_, rfl⟩
   obtain ⟨kr, hkr⟩ : ∃ kr, kr = ks.zip (aggs rows) := ⟨_, rfl⟩
   have hkl : kr.length = n := by rw [hkr, List.length_zip]; unfold aggs; rw [List.length_map]; omega
   have HST : Hid (∀ k : Nat, k < n → mapUp kr (k + 1) = (mapUp kr k).put (keyL (rdOf ByteArray.empty ks (k : Int))) (.held (.agg (rows.getD k []).toArray))) := Lib.hid (fun k hk => by
    rw [mapUp_succ kr k (by omega)]
    subst hkr
    rw [List.getElem_zip]
    unfold aggs rdOf
    simp [List.getD_eq_getElem?_getD, show k < ks.length by omega, show k < rows.length by omega])
   have HOE : Hid (objE ks l = vchk (objRaw ks l)) := Lib.hid (if_pos hlen)
   have HPP : Hid (∀ cs W, k28.M W w.heap.size (fun _ => True) (objV ks l) cs → Below w.heap.size w W → ObjPost ks l w (.returned (.tuple #[.agg cs.toArray, .int .i64 (objE ks l)])) W) := Lib.hid (fun cs W h1 h2 => ⟨cs, rfl, h1, h2⟩)
   have HLD := Lib.hid hLD
   have HKR := Lib.hid hkr
   have HKL := Lib.hid hkl
   have HN := Lib.hid hn
   have HL := Lib.hid hlen
   obtain ⟨W1, hW1⟩ : ∃ W1, W1 = w.alloc (.cells #[.int .i64 0, .bool false, .slice none 0 0, .int .i64 0, .string ⟨#[]⟩, .slice none 0 0, .slice none 0 0] 28) := ⟨_, rfl⟩
   have hb1 : Below w.heap.size w W1 := by rw [hW1]; exact (Below.refl _ _).alloc (Nat.le_refl _) _
   have hx1 : W1.heap[w.heap.size]? = some (.cells #[.int .i64 0, .bool false, .slice none 0 0, .int .i64 0, .string ⟨#[]⟩, .slice none 0 0, .slice none 0 0] 28 (0, 0)) := by rw [hW1]; exact blk_new _ _
   have hs1 : W1.heap.size = w.heap.size + 1 := by rw [hW1]; simp
   have HW1 := Lib.hid hW1
   have HB1 := Lib.hid hb1
   have HX1 := Lib.hid hx1
   have HS1 := Lib.hid hs1
   rw [← hlen, ← hn]
   rw [← hn] at hn1
   generalize hPE : ObjPost ks l w = P at *
   clear hPE hW1 hb1 hx1 hs1 hLD hA hB hO hks hr1 hr2 hr3 hrl hkl hkr hlen hn
   go_enter Tryz.func22, Tryz.ntmps22
   go_upto_region 1 with (fail)
   rw [← HW1.out]
   clear HW1
   have hmm := run_makeMap (P := Tryz.prog) 87 W1
   go_wp2
   clear hmm
   have hmax : 1048576 < maxLen := by decide
   go_loopw [21] (fun vi wr => ∃ k : Nat, k ≤ n ∧ vi = .int .i64 k ∧ Hid (wr.ownsMap Tryz.prog 9 rawR W1.heap.size k (mapUp kr k)) ∧ Hid (Below W1.heap.size W1 wr)) (fun vi _ => n - (intOf vi).toNat)
   case atStart => exact ⟨0, Nat.zero_le _, rfl, Lib.hid (World.ownsMap_made W1 _ _ _), Lib.hid ((Below.refl _ _).alloc (Nat.le_refl _) _)⟩
   case round =>
    obtain ⟨k, hk, rfl, HO, HB⟩ := hrel
    have HBW := Lib.hid (HB1.out.trans (HB.out.mono HB1.out.size))
    by_cases hlt : k < n
    · have hlt2 : (k : Int) < (n : Int) := by omega
      have hk0 : (0 : Int) ≤ (k : Int) := by omega
      have hkn : k < ks.length := by rw [← HN.out]; exact hlt
      obtain ⟨ad, rfl, hx⟩ := Kd.at_string (Kd.C_below HKEYS.out HBW.out) (k : Int) (by omega) (by omega)
      rw [Int.toNat_natCast] at hx
      obtain ⟨bd, a0, a1, a2, a3, a4, a5, a6, rfl, hrow, p0, p1, p2, p3, p4, p5, p6⟩ := at_raw HRAW.out HBW.out k (by rw [← HL.out]; exact hkn)
      have hst := HST.out k hlt
      rw [hrow] at hst
      have HST1 := Lib.hid hst
      have HKY : Hid (keyOf Tryz.prog 9 (.string (rdOf ByteArray.empty ks (k : Int))) = some (keyL (rdOf ByteArray.empty ks (k : Int)))) := Lib.hid (WideMaps.keyOf_string_mk Tryz.underlying9 (HSZ.out k hkn))
      have hkm : k < maxLen := by omega
      clear hst hrow hkn hmax
      generalize rdOf ByteArray.empty ks (k : Int) = s at *
      have hw : wrap64 ((k : Int) + 1) = ((k + 1 : Nat) : Int) := by unfold wrap64; omega
      go_wp2_with (first | (at_mapUpdate; refine wpList_mapUpdate_own _ rfl _ _ _ 87 rfl 9 28 (string_keyed Tryz.underlying9) Tryz.underlying87 rawR W1.heap.size k (mapUp kr k) rfl HO.out hkm _ _ (keyL s) rfl rfl HKY.out (.held (.agg #[a0, a1, a2, a3, a4, a5, a6])) [] rfl ?_; intro w5 hown5 hg5))
      go_roundw
      case rel => exact ⟨k + 1, hlt, by go_num, Lib.hid (by rw [HST1.out]; exact hown5), Lib.hid (HB.out.grown hg5 HB.out.size (by intro q hq; cases hq; exact Nat.le_refl _))⟩
      case measure => show n - (k + 1) < n - k; omega
    · obtain rfl : k = n := by omega
      have hlt2 : ¬ (k : Int) < (k : Int) := by omega
      have hOK := HO.out
      rw [← HKL.out] at hOK
      have HKS : Hid (∀ ss : List (List UInt8), ss.Perm (strKeys (mapUp kr kr.length)) → (skeys ss).Pairwise (fun a b => sless a b = true) ∧ ∀ j, j ∈ skeys ss ↔ ∃ p ∈ kr, p.1 = j) := Lib.hid (fun ss hp => keys_sorted hOK hp)
      have HSK : Hid (∀ ss : List (List UInt8), ss.Perm (strKeys (mapUp kr kr.length)) → ss.length ≤ k) := Lib.hid (fun ss hp => by
       have h1 := HO.out.size_le
       rw [hp.length_eq]
       have h2 : (strKeys (mapUp kr kr.length)).length = Maps.size (mapUp kr kr.length) := by
        obtain ⟨es, he⟩ := hOK.isMap
        rw [he]
        simp [strKeys, Maps.size]
       rw [h2, HKL.out]
       exact h1)
      have HSRT := Lib.hid (callsIn_wide.1 (Tryz.slices_Sorted_keys_67_68 W1.heap.size kr.length (mapUp kr kr.length) rawR wr hOK (Nat.le_trans hOK.size_le (by rw [HKL.out]; omega)) (by have := hOK.size_le; rw [HKL.out] at this ⊢; omega)))
      have HMK := Lib.hid (callsIn_wide.1 (Tryz.maps_Keys_68 (some W1.heap.size) wr))
      clear hOK hmax
      go_wp2_with (first
       | (go_at_call 68; (with_reducible refine (HMK.out).mono ?_); rintro e w3 ⟨rfl, rfl⟩)
       | (go_at_call 67; (with_reducible refine (HSRT.out).mono ?_); rintro e w4 ⟨v, ss, rfl, hS, hrow, -, hB4⟩; have HR4 := sorted_R hrow; obtain ⟨G, g, rfl⟩ := Kd.R_slice HR4; have HR4 := Lib.hid HR4; have HS := Lib.hid hS; have HB4 := Lib.hid hB4; clear hS hrow hB4; obtain ⟨hcz, hfz⟩ := bcells (blk_new w4 (.cells #[.int .i64 0, .bool false, .slice none 0 0, .int .i64 0, .string ⟨#[]⟩, .slice none 0 0, .slice none 0 0] 28)) (Below.refl _ _)))
      obtain ⟨hpw, hmm⟩ := HKS.out ss HS.out
      have hml := HSK.out ss HS.out
      rw [← skeys_len] at hml
      have HROW : Hid (∀ j ∈ skeys ss, ∃ a0 a1 a2 a3 a4 a5 a6, rowOf ks rows j = [a0, a1, a2, a3, a4, a5, a6] ∧ (∀ u ∈ [a0, a1, a2, a3, a4, a5, a6], u.oneCell' = true) ∧ k28.K w (valOf ks l j) [a0, a1, a2, a3, a4, a5, a6] ∧ j.size ≤ maxLen ∧ lastUp kr j kr.length = some (.agg #[a0, a1, a2, a3, a4, a5, a6])) := Lib.hid (fun j hj => by
       have hrl : (aggs rows).length = ks.length := by
        have := HKL.out
        rw [HKR.out, List.length_zip] at this
        have h2 := HN.out
        have h3 := (HRAW.out).1
        have h4 := HL.out
        unfold aggs
        rw [List.length_map]
        omega
       have hjk : j ∈ ks := (zip_key hrl).1 (HKR.out ▸ (hmm j).1 hj)
       obtain ⟨q1, q2, q3⟩ := HRK.out j ((zip_key HL.out.symm).2 hjk)
       have q4 := k28.K_len q1
       have q5 := k28.K_one q1
       obtain ⟨a0, a1, a2, a3, a4, a5, a6, e⟩ := list7 (show (rowOf ks rows j).length = 7 from q4)
       rw [e] at q1 q3 q5
       refine ⟨a0, a1, a2, a3, a4, a5, a6, e, q5, q1, ?_, ?_⟩
       · obtain ⟨i, hi, rfl⟩ := List.mem_iff_getElem.1 hjk
         have := HSZ.out i hi
         unfold rdOf at this
         simpa [hi] using this
       · rw [HKL.out, HN.out, HKR.out]
         exact q3)
      have HOBJ : Hid ((skeys ss).zip ((skeys ss).map (valOf ks l)) = kvs ks l) := Lib.hid (obj_of_keys (ks.zip l) (skeys ss) ((skeys ss).map (valOf ks l)) (by rw [List.length_map]) hpw (fun j => by
       have hrl : (aggs rows).length = ks.length := by
        have := HKL.out
        rw [HKR.out, List.length_zip] at this
        have h2 := HN.out
        have h3 := (HRAW.out).1
        have h4 := HL.out
        unfold aggs
        rw [List.length_map]
        omega
       rw [hmm j, HKR.out, zip_key hrl, zip_key HL.out.symm]) (fun i h1 h2 => by
       have hjk : (∃ p ∈ ks.zip l, p.1 = (skeys ss)[i]) := by
        have hrl : (aggs rows).length = ks.length := by
         have := HKL.out
         rw [HKR.out, List.length_zip] at this
         have h2 := HN.out
         have h3 := (HRAW.out).1
         have h4 := HL.out
         unfold aggs
         rw [List.length_map]
         omega
        exact (zip_key HL.out.symm).2 ((zip_key hrl).1 (HKR.out ▸ (hmm _).1 (List.getElem_mem h1)))
       have := (HRK.out _ hjk).2.1
       have hz : (ks.zip l).length = ks.length := by rw [List.length_zip]; have := HL.out; omega
       rw [hz, this, List.getElem_map]))
      generalize hsk : skeys ss = sk at *
      obtain ⟨m, hm⟩ : ∃ m, m = sk.length := ⟨_, rfl⟩
      obtain ⟨W5, hW5⟩ : ∃ W5, W5 = w4.alloc (.cells #[.int .i64 6, .bool false, .slice none 0 0, .int .i64 0, .string ⟨#[]⟩, .slice none 0 0, .slice G sk.length g] 28) := ⟨_, rfl⟩
      have hx5 := blk_new w4 (.cells #[.int .i64 6, .bool false, .slice none 0 0, .int .i64 0, .string ⟨#[]⟩, .slice none 0 0, .slice G sk.length g] 28)
      rw [← hW5] at hx5 ⊢
      have HMID0 : Hid (ObjMid w4 W5 w4.heap.size (.slice G sk.length g) (.slice none 0 0) []) := Lib.hid ⟨hx5, Kd.R_nil _ _ _ _ _, by rw [hW5]; exact (Below.refl _ _).alloc (Nat.le_refl _) _⟩
      have HM := Lib.hid hm
      have hB34 := HB4.out
      rw [World.size_alloc] at hB34
      have HB34 : Hid (Below wr.heap.size wr w4) := Lib.hid (((Below.refl _ _).alloc (Nat.le_refl _) _).trans (hB34.mono (Nat.le_succ _)))
      have HKC : Hid (Kd.string.C w4 G sk.length sk) := Lib.hid (Kd.R_reads' HR4.out).2.2
      have HKG : Hid (sk.length ≤ g) := Lib.hid (Kd.R_reads' HR4.out).2.1
      rw [← hm] at hml ⊢
      clear hsk hm hW5 hx5 hpw hmm hcz hfz HKS HSK HSRT HMK hB34 hlt hlt2 hk HST HSZ HRK
      go_loopw [40] (fun vi wq => ∃ (t : Nat) (v : Value), t ≤ m ∧ vi = .int .i64 t ∧ Hid (ObjMid w4 wq w4.heap.size (.slice G m g) v ((sk.take t).map (rowOf ks rows)))) (fun vi _ => m - (intOf vi).toNat)
      case atStart => exact ⟨0, .slice none 0 0, Nat.zero_le _, rfl, Lib.hid (by rw [HM.out]; exact HMID0.out)⟩
      case round =>
       obtain ⟨t, v, ht, rfl, HMD⟩ := hrel
       have hg4 := blk_lt HMD.out.box
       by_cases hlt : t < m
       · have hlt2 : (t : Int) < (m : Int) := by omega
         have ht0 : (0 : Int) ≤ (t : Int) := by omega
         obtain ⟨GV, gv, hgv⟩ := Kd.R_slice HMD.out.row
         have hrows : ((sk.take t).map (rowOf ks rows)).length = t := by rw [List.length_map, List.length_take, ← HM.out]; omega
         rw [hrows] at hgv
         subst hgv
         have htk : t < sk.length := by rw [← HM.out]; exact hlt
         have hmem : rdOf ByteArray.empty sk (t : Int) ∈ sk := by unfold rdOf; simp [htk]
         obtain ⟨ad, rfl, hx⟩ := Kd.at_string (Kd.C_below HKC.out HMD.out.bel) (t : Int) (by omega) (by omega)
         rw [Int.toNat_natCast] at hx
         obtain ⟨a0, a1, a2, a3, a4, a5, a6, hrow, hone, -, hsz, hlast⟩ := HROW.out _ hmem
         have hnx : (sk.take t).map (rowOf ks rows) ++ [[a0, a1, a2, a3, a4, a5, a6]] = (sk.take (t + 1)).map (rowOf ks rows) := by
          rw [List.take_succ_eq_append_getElem htk, List.map_append, ← hrow]
          unfold rdOf
          simp [htk]
         have hlook := map_look (by rw [HKL.out]; exact owns_below HO.out (HB34.out.trans (HMD.out.bel.mono HB34.out.size)) HO.out.lt) hsz hlast
         obtain ⟨hcb, hfb⟩ := bcells HMD.out.box (Below.refl _ _)
         have hw : wrap64 ((t : Int) + 1) = ((t + 1 : Nat) : Int) := by unfold wrap64; omega
         have HNX := Lib.hid hnx
         have HONE := Lib.hid hone
         have HRL : Hid ((((sk.take t).map (rowOf ks rows)).length + 1) * 112 ≤ 140737488355328) := Lib.hid (by rw [hrows]; omega)
         have HLN : Hid (((sk.take t).map (rowOf ks rows) ++ [[a0, a1, a2, a3, a4, a5, a6]]).length = t + 1) := Lib.hid (by rw [List.length_append, hrows]; rfl)
         have HG4 := Lib.hid hg4
         clear hrow hone hsz hlast hnx hrows htk hmem hg4
         generalize rdOf ByteArray.empty sk (t : Int) = s at *
         go_wp2_with (first | (at_builtin; refine Kd.R_append (Kd.raw 7) (w0 := wr) (w4.heap.size + 1) rfl (.tmp 45) (.tmp 49) 25 28 (.agg #[.int .i64 0, .bool false, .slice none 0 0, .int .i64 0, .string ⟨#[]⟩, .slice none 0 0, .slice none 0 0]) 112 rfl Tryz.underlying25 infoV_ rfl (by decide) (by decide) _ _ [a0, a1, a2, a3, a4, a5, a6] [a0, a1, a2, a3, a4, a5, a6] (fun _ => True) (fun _ => False) rfl rfl ⟨rfl, rfl, HONE.out⟩ (fun _ h => h.elim) (fun _ _ => trivial) HMD.out.row (Below.refl _ _) HG4.out HRL.out ?_; intro v1 w7 hR7 hB7 hg7 hat7; have HS7 := Lib.hid (HMD.out.step hR7 hB7); have hx7 := (hB7.block _ (Nat.lt_succ_self _)).trans HMD.out.box; obtain ⟨hc7, hf7⟩ := bcells hx7 (Below.refl _ _); obtain ⟨G7, g7, hv7⟩ := Kd.R_slice hR7; rw [HLN.out] at hv7; subst hv7; clear hR7 hB7 hg7 hat7 hx7))
         go_roundw
         case rel => exact ⟨t + 1, _, hlt, by go_num, Lib.hid (by rw [← HNX.out]; exact HS7.out)⟩
         case measure => show m - (t + 1) < m - t; omega
       · obtain rfl : t = m := by omega
         have hlt2 : ¬ (t : Int) < (t : Int) := by omega
         have hgv := Kd.R_slice HMD.out.row
         obtain ⟨GV, gv, hgv⟩ := hgv
         have hrows : ((sk.take t).map (rowOf ks rows)).length = t := by rw [List.length_map, List.length_take, ← HM.out]; omega
         rw [hrows] at hgv
         subst hgv
         have htl : sk.take t = sk := by rw [HM.out]; exact List.take_length
         have hrd := Kd.R_reads' HMD.out.row
         rw [htl] at hrd
         have hzip := HOBJ.out
         have h4r := HMD.out.bel
         have hw4 : Below w.heap.size w w4 := HBW.out.trans (HB34.out.mono HBW.out.size)
         have hwr : Below w.heap.size w wr := hw4.trans (h4r.mono hw4.size)
         have hlk : (kvs ks l).map Prod.fst = sk := by rw [← hzip]; exact List.map_fst_zip (by rw [List.length_map]; omega)
         have hlv : (kvs ks l).map Prod.snd = sk.map (valOf ks l) := by rw [← hzip]; exact List.map_snd_zip (by rw [List.length_map]; omega)
         have hK : k28.K wr (objRaw ks l) [.int .i64 6, .bool false, .slice none 0 0, .int .i64 0, .string ⟨#[]⟩, .slice GV t gv, .slice G t g] := by
          have h3 : (objRaw ks l).f3 = sk.map (valOf ks l) := hlv
          have h4 : (objRaw ks l).f4 = sk := hlk
          have e3 : (objRaw ks l).f3.length = t := by rw [h3, List.length_map, ← HM.out]
          have e4 : (objRaw ks l).f4.length = t := by rw [h4, ← HM.out]
          have hC3 : k28.C wr GV t (sk.map (valOf ks l)) := by
           have h0 := hrd.2.2
           rw [List.length_map, ← HM.out] at h0
           refine raw_to_V h0 (by rw [List.length_map, List.length_map]) (fun j x c hx hc => ?_)
           rw [List.getElem?_map] at hx hc
           cases hj : sk[j]? with
           | none => rw [hj] at hx; cases hx
           | some s =>
            rw [hj] at hx hc
            obtain rfl := Option.some.inj hx
            obtain rfl := Option.some.inj hc
            obtain ⟨a0, a1, a2, a3, a4, a5, a6, hrow, -, hk, -⟩ := HROW.out s (List.mem_of_getElem? hj)
            rw [hrow]
            exact k28.K_below hwr hk
          have h := k28_mk wr (objRaw ks l) (A2 := none) (c2 := 0) (Nat.zero_le 0) (Kd.C_nil _ _) (A5 := GV) (c5 := gv) (by rw [e3]; have := hrd.2.1; exact this) (by rw [h3, List.length_map, ← HM.out]; exact hC3) (A6 := G) (c6 := g) (by rw [h4]; exact HKG.out) (by rw [h4]; exact Kd.C_below HKC.out h4r)
          rw [e3, e4] at h
          exact h
         have HWH := Lib.hid (Whole_any (objRaw ks l) _ 0 wr (HLD.out.below hwr) hK HOK.out)
         have HWR := Lib.hid hwr
         have HX1r : Hid (wr.heap[w.heap.size]? = some (.cells #[.int .i64 0, .bool false, .slice none 0 0, .int .i64 0, .string ⟨#[]⟩, .slice none 0 0, .slice none 0 0] 28 (0, 0))) := Lib.hid ((h4r.block _ (by have := HBW.out.size; have := HB34.out.size; have := HO.out.lt; have := HS1.out; omega)).trans (blk_below2 (blk_below2 HX1.out HB.out) HB34.out))
         have HEQ : Hid (wholeE (objRaw ks l) 0 = objE ks l) := Lib.hid (by rw [HOE.out]; unfold wholeE orL; rw [if_pos rfl]; unfold orL; split <;> simp_all [orL])
         have HVQ : Hid (wholeV (objRaw ks l) 0 = objV ks l) := Lib.hid (by unfold wholeV objV; rw [HEQ.out])
         obtain ⟨hcb, hfb⟩ := bcells HMD.out.box (Below.refl _ _)
         have HGW : Hid (w.heap.size < wr.heap.size) := Lib.hid (blk_lt HX1r.out)
         clear hrows htl hrd hzip h4r hw4 hwr hlk hlv hK hlt hlt2 ht hg4
         go_wp2_with (go_at_call 69; (with_reducible refine (HWH.out).mono ?_); rintro e w8 ⟨cs8, rfl, hM8, hB8⟩; rw [HEQ.out]; rw [HVQ.out] at hM8; have HM8 := Lib.hid hM8; obtain ⟨v2, v5, v6, rfl, r2, r5, r6⟩ := k28_openM hM8; obtain ⟨E2, s2, rfl⟩ := Kd.R_slice r2; obtain ⟨E5, s5, rfl⟩ := Kd.R_slice r5; obtain ⟨E6, s6, rfl⟩ := Kd.R_slice r6; have HX8 := Lib.hid (blk_below2 HX1r.out hB8); obtain ⟨hc8, hf8⟩ := bcells HX1r.out hB8; have HB8 := Lib.hid (HWR.out.trans (hB8.mono HWR.out.size)); clear hM8 r2 r5 r6 hB8)
         obtain ⟨X, hX⟩ : ∃ X, X = ((((((w8.setCell ⟨w.heap.size, 0, none⟩ (.int .i64 (objV ks l).f0)).setCell ⟨w.heap.size, 1, none⟩ (.bool (objV ks l).f1.f0)).setCell ⟨w.heap.size, 2, none⟩ (.slice E2 (objV ks l).f1.f1.length s2)).setCell ⟨w.heap.size, 3, none⟩ (.int .i64 (objV ks l).f1.f2)).setCell ⟨w.heap.size, 4, none⟩ (.string (objV ks l).f2)).setCell ⟨w.heap.size, 5, none⟩ (.slice E5 (objV ks l).f3.length s5)).setCell ⟨w.heap.size, 6, none⟩ (.slice E6 (objV ks l).f4.length s6) := ⟨_, rfl⟩
         obtain ⟨hfx, hm, hbw⟩ := into_box HM8.out HGW.out HX8.out rfl hX
         rw [← hX]
         have HFIN := Lib.hid (HPP.out _ X (k28.M_lower (Nat.le_of_lt HGW.out) hm) (HB8.out.trans (hbw _ (Nat.le_refl _))))
         clear hX hm hbw hc8 hf8 hcb hfb
         have hrc := blk_cell hfx
         refine bodyPost_ret (v := .tuple #[.agg #[.int .i64 (objV ks l).f0, .bool (objV ks l).f1.f0, .slice E2 (objV ks l).f1.f1.length s2, .int .i64 (objV ks l).f1.f2, .string (objV ks l).f2, .slice E5 (objV ks l).f3.length s5, .slice E6 (objV ks l).f4.length s6], .int .i64 (objE ks l)]) ?_ rfl HFIN.out
         simp [results, Tryz.f22, go_sem, hrc]
 · have hOE : objE ks l = 3 := if_neg hlen
   have hOV : objV ks l = zeroV := if_neg (by rw [hOE]; decide)
   have HPP : Hid (∀ W, Below w.heap.size w W → ObjPost ks l w (.returned (.tuple #[.agg #[.int .i64 0, .bool false, .slice none 0 0, .int .i64 0, .string ⟨#[]⟩, .slice none 0 0, .slice none 0 0], .int .i64 3])) W) := Lib.hid (fun W h2 => ⟨_, by rw [hOE], by rw [hOV]; exact zero_M W _, h2⟩)
   have hne : ((ks.length : Int) != (l.length : Int)) = true := by simp; omega
   generalize hPE : ObjPost ks l w = P at *
   clear hPE hA hB hO hks hn1 hlen hOE hOV hLD
   obtain ⟨hcz, hfz⟩ := bcells (blk_new w (.cells #[.int .i64 0, .bool false, .slice none 0 0, .int .i64 0, .string ⟨#[]⟩, .slice none 0 0, .slice none 0 0] 28)) (Below.refl _ _)
   go_enter Tryz.func22, Tryz.ntmps22
   go_wp2
   have hrc := blk_cell (blk_new w (.cells #[.int .i64 0, .bool false, .slice none 0 0, .int .i64 0, .string ⟨#[]⟩, .slice none 0 0, .slice none 0 0] 28))
   refine bodyPost_ret (v := .tuple #[.agg #[.int .i64 0, .bool false, .slice none 0 0, .int .i64 0, .string ⟨#[]⟩, .slice none 0 0, .slice none 0 0], .int .i64 3]) ?_ rfl (HPP.out _ ((Below.refl _ _).alloc (Nat.le_refl _) _))
   simp [results, Tryz.f22, go_sem, hrc]
end Go.Proofs.YthigbklhngihkaaGreatDoor.P
namespace Go.Proofs.YthigbklhngihkaaGreatDoor.P
open Go.RowKit Go.Proofs.YthigbklhngihkaaGreatDoorW.PrintWords Go.Proofs.YthigbklhngihkaaGreatDoorW.PrintMore Go.Proofs.YthigbklhngihkaaGreatDoorW.PrintLast
theorem flat7 : ∀ (rows : List (List Value)) (j i : Nat) (c : List Value), (∀ r ∈ rows, r.length = 7) → rows[j]? = some c → i < 7 → rows.flatten[j * 7 + i]? = c[i]?
 | [], j, i, c, _, h, _ => by simp at h
 | r :: rows, 0, i, c, h7, h, hi => by
  obtain rfl := Option.some.inj h
  have := h7 r List.mem_cons_self
  rw [List.flatten_cons, List.getElem?_append_left (by omega)]
  simp
 | r :: rows, j + 1, i, c, h7, h, hi => by
  have := h7 r List.mem_cons_self
  rw [List.flatten_cons, List.getElem?_append_right (by omega), show (j + 1) * 7 + i - r.length = j * 7 + i by omega]
  exact flat7 rows j i c (fun q hq => h7 q (List.mem_cons_of_mem _ hq)) (by simpa using h) hi
theorem many_C {w0 w : World} {l : List V} {rows : List (List Value)} {t : Nat} (hl : l.length = rows.length) (hb : Below w0.heap.size w0 w) (hK : ∀ (j : Nat) (x : V) (c : List Value), l[j]? = some x → rows[j]? = some c → k28.K w0 x c) (hn : l.length ≤ 1048576) :
 k28.C (w.alloc (.cells rows.flatten.toArray t)) (some ⟨w.heap.size, 0, none⟩) l.length l := by
 have h7 : ∀ r ∈ rows, r.length = 7 := fun r hr => by
  obtain ⟨j, hj, rfl⟩ := List.mem_iff_getElem.1 hr
  exact k28.K_len (hK j (l[j]'(by omega)) _ (List.getElem?_eq_getElem _) (List.getElem?_eq_getElem hj))
 refine ⟨rfl, Nat.le_trans hn (by decide), fun _ => ⟨_, rfl, fun j p hj => ?_⟩⟩
 have hjl : j < rows.length := by have := (List.getElem?_eq_some_iff.1 hj).1; omega
 have hk := hK j p _ hj (List.getElem?_eq_getElem hjl)
 have hk7 := k28.K_len hk
 refine ⟨rows[j], hk7, k28.K_below (hb.alloc hb.size _) hk, fun i u hu => ?_⟩
 have hi : i < 7 := by have := (List.getElem?_eq_some_iff.1 hu).1; have : rows[j].length = 7 := hk7; omega
 rw [Addr.add_mid, Nat.zero_add, blk_cell (blk_new w _), List.getElem?_toArray]
 exact (flat7 rows j i _ h7 (List.getElem?_eq_getElem hjl) hi).trans hu
theorem texts_C {w : World} {l : List ByteArray} {t : Nat} (hn : l.length ≤ 1048576) :
 Kd.string.C (w.alloc (.cells (l.map Value.string).toArray t)) (some ⟨w.heap.size, 0, none⟩) l.length l := by
 refine ⟨rfl, Nat.le_trans hn (by decide), fun _ => ⟨_, rfl, fun j p hj => ⟨[.string p], rfl, rfl, fun i u hu => ?_⟩⟩⟩
 cases i with
 | succ i => simp at hu
 | zero =>
  simp at hu
  subst hu
  rw [Addr.add_mid, Nat.zero_add, blk_cell (blk_new w _), List.getElem?_toArray]
  show (l.map Value.string)[j * 1 + 0]? = _
  rw [Nat.mul_one, Nat.add_zero, List.getElem?_map, hj]
  rfl
theorem num5_any (n : Int) (W : World) : Calls Tryz.prog 17 #[.int .i64 n] W fun e w' => e = .returned (.int .i64 n) ∧ w' = W := by
 go_enter Tryz.func17, Tryz.ntmps17
 go_wp2
 go_ret
 exact ⟨rfl, rfl⟩
def kV (n : Int) : V := ⟨n, ⟨false, [], 0⟩, ⟨#[]⟩, [], []⟩
def exK : List ByteArray := [⟨#[98]⟩, ⟨#[97]⟩, ⟨#[98]⟩]
def exL : List V := [kV 1, kV 2, kV 0]
theorem ex_E : objE exK exL = 0 := by decide +kernel
theorem ex_keys : (objV exK exL).f4 = [⟨#[97]⟩, ⟨#[98]⟩] := by decide +kernel
theorem ex_ask : vask2 num0 (txtV ⟨#[]⟩) = 0 := by decide +kernel
theorem ex_cmp : vcmp num0 (txtV ⟨#[]⟩) = -1 := by decide +kernel
theorem kV_K (n : Int) (W : World) : k28.K W (kV n) [.int .i64 n, .bool false, .slice none 0 0, .int .i64 0, .string ⟨#[]⟩, .slice none 0 0, .slice none 0 0] :=
 k28_mk W (kV n) (Nat.zero_le 0) (Kd.C_nil _ _) (Nat.zero_le 0) (Kd.C_nil _ _) (Nat.zero_le 0) (Kd.C_nil _ _)
theorem okV_kV {n : Int} (h : (Lit.int .i64 n).wf = true) : OkV (kV n) :=
 OkV.mk _ h (fun m hm => absurd hm (by unfold kV; simp)) (by show (Lit.int .i64 0).wf = true; rfl) (by show (0 : Nat) ≤ 1073741824; decide) (fun n hn => absurd hn (by unfold kV; simp)) (by unfold kV; simp) (by unfold kV; simp) (by unfold kV; simp) (fun y hy => absurd hy (by unfold kV; simp))
theorem okV_ex : ∀ x ∈ exL, OkV x := fun x hx => by
 unfold exL at hx
 simp only [List.mem_cons, List.mem_nil_iff, or_false] at hx
 rcases hx with rfl | rfl | rfl <;> exact okV_kV rfl
theorem okV_num0 : OkV num0 :=
 OkV.mk _ (by show (Lit.int .i64 3).wf = true; rfl) (fun m hm => absurd hm (by unfold num0; simp)) (by show (Lit.int .i64 0).wf = true; rfl) (by show (0 : Nat) ≤ 1073741824; decide) (fun n hn => absurd hn (by unfold num0; simp)) (by unfold num0; simp) (by unfold num0; simp) (by unfold num0; simp) (fun y hy => absurd hy (by unfold num0; simp))
theorem okV_txt {s : ByteArray} (h : s.size ≤ 1073741824) : OkV (txtV s) :=
 OkV.mk _ (by show (Lit.int .i64 4).wf = true; rfl) (fun m hm => absurd hm (by unfold txtV; simp)) (by show (Lit.int .i64 0).wf = true; rfl) h (fun n hn => absurd hn (by unfold txtV; simp)) (by unfold txtV; simp) (by unfold txtV; simp) (by unfold txtV; simp) (fun y hy => absurd hy (by unfold txtV; simp))
theorem ex_at {W : World} {ad : Addr} {a b : ByteArray} (h : W.cell? (ad.add (0 : Int).toNat) = some (.string (rdOf ⟨#[]⟩ [a, b] (0 : Int)))) : W.cell? ad = some (.string a) := by
 have e : ad.add (0 : Int).toNat = ad := by cases ad; rfl
 rw [e] at h
 exact h
theorem ex_Object (W : World) (hLD : LaidW W) (W2 : World) (hW2 : W2 = (W.alloc (.cells #[.string ⟨#[98]⟩, .string ⟨#[97]⟩, .string ⟨#[98]⟩] 9)).alloc (.cells #[.int .i64 1, .bool false, .slice none 0 0, .int .i64 0, .string ⟨#[]⟩, .slice none 0 0, .slice none 0 0, .int .i64 2, .bool false, .slice none 0 0, .int .i64 0, .string ⟨#[]⟩, .slice none 0 0, .slice none 0 0, .int .i64 0, .bool false, .slice none 0 0, .int .i64 0, .string ⟨#[]⟩, .slice none 0 0, .slice none 0 0] 28)) :
 Calls Tryz.prog 22 #[.slice (some ⟨W.heap.size, 0, none⟩) 3 3, .slice (some ⟨W.heap.size + 1, 0, none⟩) 3 3] W2 (fun e w' => ∃ cs : List Value, e = .returned (.tuple #[.agg cs.toArray, .int .i64 0]) ∧ k28.M w' W2.heap.size (fun _ => True) (objV exK exL) cs ∧ Below W.heap.size W w') := by
 have hB : Below W.heap.size W W2 := by rw [hW2]; exact ((Below.refl _ _).alloc (Nat.le_refl _) _).alloc (by simp) _
 have hA : Kd.string.C W2 (some ⟨W.heap.size, 0, none⟩) exK.length exK := by
  rw [hW2]
  exact Kd.C_alloc (texts_C (w := W) (l := exK) (t := 9) (by decide)) _
 have hL : k28.C W2 (some ⟨W.heap.size + 1, 0, none⟩) exL.length exL := by
  rw [hW2]
  have := many_C (w0 := W) (w := W.alloc (.cells #[.string ⟨#[98]⟩, .string ⟨#[97]⟩, .string ⟨#[98]⟩] 9)) (l := exL) (rows := [[.int .i64 1, .bool false, .slice none 0 0, .int .i64 0, .string ⟨#[]⟩, .slice none 0 0, .slice none 0 0], [.int .i64 2, .bool false, .slice none 0 0, .int .i64 0, .string ⟨#[]⟩, .slice none 0 0, .slice none 0 0], [.int .i64 0, .bool false, .slice none 0 0, .int .i64 0, .string ⟨#[]⟩, .slice none 0 0, .slice none 0 0]]) (t := 28) rfl ((Below.refl _ _).alloc (Nat.le_refl _) _) (fun j x c hx hc => by
   rcases j with _ | _ | _ | j
   · obtain rfl := Option.some.inj hx; obtain rfl := Option.some.inj hc; exact kV_K 1 W
   · obtain rfl := Option.some.inj hx; obtain rfl := Option.some.inj hc; exact kV_K 2 W
   · obtain rfl := Option.some.inj hx; obtain rfl := Option.some.inj hc; exact kV_K 0 W
   · simp at hc) (by decide)
  rw [World.size_alloc] at this
  exact this
 have h := Object_any exK exL (some ⟨W.heap.size, 0, none⟩) 3 (some ⟨W.heap.size + 1, 0, none⟩) 3 W2 (hLD.below hB) hA hL okV_ex (fun k hk => by
  unfold exK at hk
  simp only [List.mem_cons, List.mem_nil_iff, or_false] at hk
  rcases hk with rfl | rfl | rfl <;> decide) (by decide)
 refine h.mono ?_
 rintro e w' ⟨cs, rfl, hM, hb⟩
 exact ⟨cs, by rw [ex_E], hM, hB.trans (hb.mono hB.size)⟩
set_option maxHeartbeats 4000000 in
theorem alive5_any (w : World) (hLD : LaidW w) : Calls Tryz.prog 15 #[] w fun e w' => e = .returned (.bool true) ∧ Below w.heap.size w w' := by
 have HN : Hid (∀ W, Calls Tryz.prog 19 #[.int .i64 0] W fun e w' => ∃ cs : List Value, e = .returned (.agg cs.toArray) ∧ k28.M w' W.heap.size (fun _ => True) num0 cs ∧ Below W.heap.size W w') := Lib.hid NumberP_zero
 have HT : Hid (∀ W, Calls Tryz.prog 27 #[.string ⟨#[]⟩] W fun e w' => ∃ cs : List Value, e = .returned (.agg cs.toArray) ∧ k28.M w' W.heap.size (fun _ => True) (txtV ⟨#[]⟩) cs ∧ Below W.heap.size W w') := Lib.hid (fun W => Text_any ⟨#[]⟩ W)
 have HC : Hid (∀ cs ds W, Below w.heap.size w W → k28.K W num0 cs → k28.K W (txtV ⟨#[]⟩) ds → Calls Tryz.prog 16 #[.agg cs.toArray, .agg ds.toArray] W fun e w' => e = .returned (.tuple #[.int .i64 (-1), .int .i64 0]) ∧ Below W.heap.size W w') := Lib.hid (fun cs ds W hW h1 h2 => by
  have h := VCompare_any num0 (txtV ⟨#[]⟩) cs ds W (hLD.below hW) h1 h2 okV_num0 (okV_txt (by decide))
  rw [ex_cmp, ex_ask] at h
  exact h)
 have HOB := Lib.hid (fun W (hW : Below w.heap.size w W) => ex_Object W (hLD.below hW) _ rfl)
 clear hLD
 go_enter Tryz.func15, Tryz.ntmps15
 go_wp2_with (first
  | (go_at_call 19; (with_reducible refine (HN.out _).mono ?_); rintro e w1 ⟨cs1, rfl, hM1, hB1⟩; have HM1 := Lib.hid hM1; have HB1 := Lib.hid hB1; obtain ⟨v2, v5, v6, rfl, r2, r5, r6⟩ := k28_openM hM1; clear hM1 hB1 r2 r5 r6)
  | (go_at_call 27; (with_reducible refine (HT.out _).mono ?_); rintro e w2 ⟨cs2, rfl, hM2, hB2⟩; have HM2 := Lib.hid hM2; have HB2 := Lib.hid hB2; obtain ⟨u2, u5, u6, rfl, r2, r5, r6⟩ := k28_openM hM2; clear hM2 hB2 r2 r5 r6)
  | (go_at_call 16; (with_reducible refine (HC.out _ _ w2 (HB1.out.trans (HB2.out.mono HB1.out.size)) (k28.K_below HB2.out (k28.K_of_M HM1.out)) (k28.K_of_M HM2.out)).mono ?_); rintro e w3 ⟨rfl, hB3⟩; have HB3 := Lib.hid ((HB1.out.trans (HB2.out.mono HB1.out.size)).trans (hB3.mono (Nat.le_trans HB1.out.size HB2.out.size))); clear hB3)
  | (go_at_call 22; (with_reducible refine (HOB.out w3 HB3.out).mono ?_); rintro e w4 ⟨cs4, rfl, hM4, hB4⟩; have HM4 := Lib.hid hM4; have HB4 := Lib.hid (HB3.out.trans (hB4.mono HB3.out.size)); obtain ⟨z2, z5, z6, rfl, r2, r5, r6⟩ := k28_openM hM4; obtain ⟨E2, s2, rfl⟩ := Kd.R_slice r2; obtain ⟨E5, s5, rfl⟩ := Kd.R_slice r5; obtain ⟨E6, s6, rfl⟩ := Kd.R_slice r6; have hk6 := (Kd.R_reads' r6).2.2; rw [ex_keys] at hk6 ⊢; obtain ⟨ad, rfl, hx⟩ := Kd.at_string hk6 (0 : Int) (by decide) (by decide); have hx := ex_at hx; have hxa := fun (o : Obj) => pw_cell_below ((Below.refl w4.heap.size w4).alloc (Nat.le_refl _) o) hx; clear hM4 hB4 r2 r5 r6 hk6; obtain ⟨hcz, hfz⟩ := bcells (blk_new w4 (.cells #[.int .i64 0, .bool false, .slice none 0 0, .int .i64 0, .string ⟨#[]⟩, .slice none 0 0, .slice none 0 0] 28)) (Below.refl _ _))
  | (go_at_call 17; (with_reducible refine (num5_any _ _).mono ?_); rintro e w5 ⟨rfl, rfl⟩))
 go_ret
 exact ⟨rfl, HB4.out.alloc HB4.out.size _⟩
end Go.Proofs.YthigbklhngihkaaGreatDoor.P
namespace Go.Proofs.YthigbklhngihkaaGreatDoor.P
open Go.RowKit Go.Proofs.YthigbklhngihkaaGreatDoorW.PrintWords
def encR (c : Int) : List Int :=
 if c < 128 then [c] else if c < 2048 then [192 + c / 64, 128 + c % 64]
 else if c < 65536 then [224 + c / 4096, 128 + c / 64 % 64, 128 + c % 64]
 else [240 + c / 262144, 128 + c / 4096 % 64, 128 + c / 64 % 64, 128 + c % 64]
def rune (c : Int) : Prop := 0 ≤ c ∧ c ≤ 1114111 ∧ ¬ (55296 ≤ c ∧ c ≤ 57343)
instance (c : Int) : Decidable (rune c) := by unfold rune; infer_instance
def okO (l : List Int) : Prop := ∀ x ∈ l, 0 ≤ x ∧ x < 256
def decN (l : List Int) : Nat × Nat := Lib.decodeN l.length (l.getD 0 0).toNat (l.getD 1 0).toNat (l.getD 2 0).toNat (l.getD 3 0).toNat
def dc (l : List Int) : Int := if (decN l).1 = 65533 ∧ (decN l).2 = 1 then -1 else ((decN l).1 : Int)
def dn (l : List Int) : Nat := (decN l).2
theorem str_bytesOf (s : ByteArray) : strOfNums (bytesOf s) = s := by
 cases s with
 | mk d =>
  unfold strOfNums bytesOf
  simp only [List.map_map]
  rw [show ((fun n : Int => UInt8.ofNat n.toNat) ∘ fun b : UInt8 => (b.toNat : Int)) = id from funext fun b => by simp]
  simp
theorem bytesOf_str {l : List Int} (h : okO l) : bytesOf (strOfNums l) = l := by
 unfold strOfNums bytesOf
 simp only [List.toList_toArray, List.map_map]
 conv => rhs; rw [← List.map_id l]
 refine List.map_congr_left fun x hx => ?_
 have := h x hx
 simp only [Function.comp, id]
 rw [UInt8.toNat_ofNat']
 omega
theorem bytesOf_getD (s : ByteArray) (p i : Nat) : ((bytesOf s).drop p).getD i 0 = ((s.get! (p + i)).toNat : Int) := by
 unfold bytesOf
 rw [List.getD_eq_getElem?_getD, List.getElem?_drop, List.getElem?_map]
 simp only [ByteArray.get!, getElem!_def]
 by_cases h : p + i < s.data.size
 · rw [Array.getElem?_eq_getElem h, List.getElem?_eq_getElem (by simpa using h)]
   simp
 · have hz : s.data.size = s.size := rfl
   rw [Array.getElem?_eq_none (by omega), List.getElem?_eq_none (by simp; omega)]
   rfl
theorem bytesOf_inj {a b : ByteArray} (h : bytesOf a = bytesOf b) : a = b := by rw [← str_bytesOf a, h, str_bytesOf]
theorem bytesOf_cut (s : ByteArray) (i j : Nat) : bytesOf (s.extract i j) = ((bytesOf s).drop i).take (j - i) := by
 unfold bytesOf
 rw [ByteArray.data_extract, Array.toList_extract]
 simp [List.extract_eq_take_drop, List.map_take, List.map_drop]
def firstR (L : List Int) : Int × Int := if L ≠ [] ∧ 0 ≤ dc L then (dc L, (dn L : Int)) else (0, 0)
end Go.Proofs.YthigbklhngihkaaGreatDoor.P
namespace Go.Proofs.YthigbklhngihkaaGreatDoor.P
open Go.RowKit Go.Proofs.YthigbklhngihkaaGreatDoorW.PrintWords Go.Proofs.YthigbklhngihkaaGreatDoorW.PrintMore Go.Proofs.YthigbklhngihkaaGreatDoorW.PrintLast
def digC (c : Int) : Bool := decide (48 ≤ c) && decide (c ≤ 57)
def digB (l : List Int) : Bool := l.all digC
def dnum (l : List Int) : Nat := l.foldl (fun n c => n * 10 + (c - 48).toNat) 0
set_option maxHeartbeats 1000000 in
theorem dig_in (c : Int) (w : World) : Calls Tryz.prog 236 #[.int .u8 c] w fun e w' => e = .returned (.bool (!digC c)) ∧ w = w' := by
 by_cases h1 : c < 48
 · have hd : digC c = false := by unfold digC; simp; omega
   rw [hd]
   go_enter Tryz.func236, Tryz.ntmps236
   go_wp2
   go_ret
   exact ⟨rfl, rfl⟩
 · by_cases h2 : c > 57
   · have hd : digC c = false := by unfold digC; simp; omega
     rw [hd]
     go_enter Tryz.func236, Tryz.ntmps236
     go_wp2
     go_ret
     exact ⟨rfl, rfl⟩
   · have hd : digC c = true := by unfold digC; simp; omega
     rw [hd]
     go_enter Tryz.func236, Tryz.ntmps236
     go_wp2
     go_ret
     exact ⟨rfl, rfl⟩
set_option maxHeartbeats 1000000 in
theorem index_in (A : Option Addr) (c : Nat) (l : List Int) (w : World) (hC : ReadsInt w .u8 A l.length l) (hz : l.length ≤ 4611686018427387904) :
 Calls Tryz.prog 277 #[.slice A l.length c, .func (.func 236) #[] #[]] w fun e w' => w = w' ∧ ∃ r : Int, e = .returned (.int .i64 r) ∧ (r ≥ 0 ↔ digB l = false) := by
 have HC := Lib.hid hC
 clear hC
 go_enter Tryz.func277, Tryz.ntmps277
 go_wp2
 go_loopw [8] (fun i wr => ∃ k : Nat, k ≤ l.length ∧ i = .int .i64 k ∧ Hid (digB (l.take k) = true) ∧ wr = w) (fun i _ => l.length - (intOf i).toNat)
 case atStart => exact ⟨0, Nat.zero_le _, rfl, Lib.hid rfl, rfl⟩
 case round =>
  obtain ⟨k, hk, rfl, hd, rfl⟩ := hrel
  by_cases hlt : k < l.length
  · obtain ⟨ad, rfl, hx⟩ := HC.out.at_ (k : Int) (by omega) (by omega)
    rw [Int.toNat_natCast] at hx
    have hw : IntKind.i64.wrap ((k : Int) + 1) = ((k + 1 : Nat) : Int) := by rw [wrap_in _ (by omega)]; omega
    have ht : Hid (digB (l.take (k + 1)) = digC (rd l k)) := Lib.hid (by
     rw [take_succ_getD hlt, ← rd_nat]
     have := hd.out
     unfold digB at this ⊢
     rw [List.all_append, this]
     simp)
    cases hc : digC (rd l k) with
    | true =>
     rw [hc] at ht
     go_wp2_with (first | (go_at_call 236; refine (dig_in _ _).mono ?_; rw [hc]; rintro e w' ⟨rfl, rfl⟩))
     go_roundw
     case rel => exact ⟨k + 1, by omega, by go_num, ht, trivial⟩
     case measure => simp [intOf]; omega
    | false =>
     rw [hc] at ht
     have hbad : Hid (digB l = false) := Lib.hid (by
      have := ht.out
      have e : l = l.take (k + 1) ++ l.drop (k + 1) := (List.take_append_drop _ _).symm
      rw [e]
      unfold digB at this ⊢
      rw [List.all_append, this]
      rfl)
     go_wp2_with (first | (go_at_call 236; refine (dig_in _ _).mono ?_; rw [hc]; rintro e w' ⟨rfl, rfl⟩))
     go_ret
     exact ⟨rfl, _, rfl, by rw [hbad.out]; simp⟩
  · obtain rfl : k = l.length := by omega
    rw [List.take_length] at hd
    go_wp2
    go_ret
    exact ⟨rfl, _, rfl, by rw [hd.out]; simp⟩
set_option maxHeartbeats 1000000 in
theorem contains_in (A : Option Addr) (c : Nat) (l : List Int) (w : World) (hC : ReadsInt w .u8 A l.length l) (hz : l.length ≤ 4611686018427387904) :
 Calls Tryz.prog 235 #[.slice A l.length c, .func (.func 236) #[] #[]] w fun e w' => w = w' ∧ e = .returned (.bool (!digB l)) := by
 have HC := Lib.hid hC
 clear hC
 go_enter Tryz.func235, Tryz.ntmps235
 go_wp2_with fail
 refine (index_in A c l _ HC.out hz).mono ?_
 rintro e w' ⟨rfl, r, rfl, hr⟩
 have hb : (decide (r ≥ 0)) = !digB l := by
  cases h : digB l with
  | true => simp [h] at hr ⊢; exact hr
  | false => simp [h] at hr ⊢; exact hr
 go_wp2
 go_ret
 exact ⟨rfl, by rw [← hb]; rfl⟩
theorem dnum_snoc (l : List Int) (c : Int) : dnum (l ++ [c]) = dnum l * 10 + (c - 48).toNat := by unfold dnum; rw [List.foldl_append]; rfl
theorem dnum_lt : ∀ (l : List Int), digB l = true → dnum l < 10 ^ l.length := by
 intro l
 have key : ∀ (l : List Int) (n m : Nat), digB l = true → n < m → l.foldl (fun n c => n * 10 + (c - 48).toNat) n < m * 10 ^ l.length := by
  intro l
  induction l with
  | nil => intro n m _ h; simpa using h
  | cons c l ih =>
   intro n m h hn
   unfold digB at h
   simp only [List.all_cons, Bool.and_eq_true] at h
   have hc : 48 ≤ c ∧ c ≤ 57 := by have := h.1; unfold digC at this; simpa using this
   rw [List.foldl_cons, List.length_cons]
   have := ih (n * 10 + (c - 48).toNat) (m * 10) h.2 (by omega)
   rwa [Nat.mul_assoc, ← Nat.pow_succ'] at this
 intro h
 have := key l 0 1 h (by omega)
 unfold dnum
 simpa using this
theorem digB_getD {l : List Int} (h : digB l = true) {i : Nat} (hi : i < l.length) : 48 ≤ l.getD i 0 ∧ l.getD i 0 ≤ 57 := by
 have := List.all_eq_true.1 h (l.getD i 0) (by rw [List.getD_eq_getElem?_getD, List.getElem?_eq_getElem hi]; exact List.getElem_mem _)
 unfold digC at this
 simpa using this
theorem digB_take {l : List Int} (h : digB l = true) (n : Nat) : digB (l.take n) = true := List.all_eq_true.2 fun x hx => List.all_eq_true.1 h x (List.mem_of_mem_take hx)
theorem digB_drop {l : List Int} (h : digB l = true) (n : Nat) : digB (l.drop n) = true := List.all_eq_true.2 fun x hx => List.all_eq_true.1 h x (List.mem_of_mem_drop hx)
set_option maxHeartbeats 1000000 in
theorem piece_in (t : ByteArray) (w : World) (hd : digB (bytesOf t) = true) (hz : t.size ≤ 9) :
 Calls Tryz.prog 238 #[.string t] w fun e w' => e = .returned (.int .u32 (dnum (bytesOf t))) ∧ Below w.heap.size w w' := by
 have hconv := fun W : World => print_bytes (P := Tryz.prog) 9 247 5 Tryz.underlying9 Tryz.underlying247 Tryz.underlying5 t W
 have hR := Lib.hid (bytes_reads w 5 t (by omega))
 have hB := Lib.hid (bytes_below (Below.refl w.heap.size w) (Nat.le_refl _) 5 t)
 have HD := Lib.hid hd
 have HL := Lib.hid (bytesOf_length t)
 obtain ⟨W, hW⟩ : ∃ W, W = Lib.bytesWorld w 5 t := ⟨_, rfl⟩
 rw [← hW] at hR hB
 have HW := Lib.hid hW
 clear hd hW
 go_enter Tryz.func238, Tryz.ntmps238
 go_wp2
 rw [← HW.out]
 go_loopw [3, 9] (fun vn vi wr => ∃ k : Nat, k ≤ t.size ∧ vi = .int .i64 k ∧ vn = .int .u32 (dnum ((bytesOf t).take k)) ∧ wr = W) (fun _ i _ => t.size - (intOf i).toNat)
 case atStart => exact ⟨0, Nat.zero_le _, rfl, rfl, rfl⟩
 case round =>
  obtain ⟨k, hk, rfl, rfl, rfl⟩ := hrel
  by_cases hlt : k < t.size
  · obtain ⟨ad, hA, hx⟩ := hR.out.at_ (k : Int) (by omega) (by omega)
    injection hA with hA
    subst hA
    rw [Int.toNat_natCast, add_plain] at hx
    have hc := digB_getD HD.out (i := k) (by have := HL.out; omega)
    rw [rd_nat] at hx
    have hlt9 : dnum ((bytesOf t).take k) < 10 ^ 8 := Nat.lt_of_lt_of_le (dnum_lt _ (digB_take HD.out k)) (Nat.pow_le_pow_right (by omega) (by rw [List.length_take]; omega))
    have hs : Hid (dnum ((bytesOf t).take (k + 1)) = dnum ((bytesOf t).take k) * 10 + ((bytesOf t).getD k 0 - 48).toNat) := Lib.hid (by rw [take_succ_getD (by have := HL.out; omega), dnum_snoc])
    generalize (bytesOf t).getD k 0 = c at *
    generalize dnum ((bytesOf t).take k) = n at *
    have hw : IntKind.i64.wrap ((k : Int) + 1) = ((k + 1 : Nat) : Int) := by rw [wrap_in _ (by omega)]; omega
    go_wp2
    go_roundw
    case rel =>
     refine ⟨k + 1, by omega, by go_num, ?_, trivial⟩
     rw [hs.out]
     congr 1
     omega
    case measure => simp [intOf]; omega
  · obtain rfl : k = t.size := by omega
    have hT : Hid ((bytesOf t).take t.size = bytesOf t) := Lib.hid (by rw [← HL.out, List.take_length])
    go_wp2
    go_ret
    rw [hT.out]
    exact ⟨rfl, hB.out⟩
theorem one_C (W : World) (x : Int) : Kd.C (Kd.int .u32) (W.alloc (.cells #[.int .u32 x] 131)) (some ⟨W.heap.size, 0, none⟩) [x].length [x] := by
 refine Kd.C_of_reads (d := (0 : Int)) (h1 := fun _ => rfl) ⟨rfl, by simp, fun _ => ⟨_, rfl, fun j hj => ?_⟩⟩
 obtain rfl : j = 0 := by simpa using hj
 exact cell_one_new W (.int .u32 x) _ 0 _ rfl
theorem trim_C (A : Option Addr) (c : Nat) (l : List Int) (w : World) (hC : Kd.C (Kd.int .u32) w A l.length l) (hc : l.length ≤ c) (hl : okL l) (hz : l.length ≤ 1152921504606846976) :
 Calls Tryz.prog 149 #[.slice A l.length c] w fun e w' => w' = w ∧ ∃ A' c', e = .returned (.slice A' (limbs (val l)).length c') ∧ (limbs (val l)).length ≤ c' ∧ Kd.C (Kd.int .u32) w A' (limbs (val l)).length (limbs (val l)) := by
 refine (trim_in A c l w hC hc hl hz).mono ?_
 rintro e w' ⟨rfl, m, hm, hr, he⟩
 have hlen : (limbs (val l)).length = m := by rw [← hr, List.length_take]; omega
 refine ⟨rfl, ?_⟩
 rcases he with ⟨rfl, rfl⟩ | ⟨h, rfl⟩
 · have h0 : limbs (val l) = [] := List.eq_nil_of_length_eq_zero hlen
   rw [h0]
   exact ⟨none, 0, rfl, Nat.le_refl _, Kd.C_nil _ _⟩
 · refine ⟨A, c, by rw [hlen], by omega, ?_⟩
   rw [← hr]
   exact Kd.C_take hC hm
theorem dnum_app (a b : List Int) (h : digB b = true) : dnum (a ++ b) = dnum a * 10 ^ b.length + dnum b := by
 have key : ∀ (b : List Int) (n m : Nat), b.foldl (fun n c => n * 10 + (c - 48).toNat) (n + m) = n * 10 ^ b.length + b.foldl (fun n c => n * 10 + (c - 48).toNat) m := by
  intro b
  induction b with
  | nil => intro n m; simp
  | cons c b ih =>
   intro n m
   rw [List.foldl_cons, List.foldl_cons, List.length_cons, show (n + m) * 10 + (c - 48).toNat = n * 10 + (m * 10 + (c - 48).toNat) by omega, ih, Nat.pow_succ']
   rw [Nat.mul_assoc]
 unfold dnum
 rw [List.foldl_append]
 have := key b (a.foldl (fun n c => n * 10 + (c - 48).toNat) 0) 0
 simpa using this
def nat_Parse.f (a0 : ByteArray) : Option (List Int × Int) := some (if a0.size = 0 then ([], 8) else if a0.size > 2400 then ([], 5) else if digB (bytesOf a0) then (limbs (dnum (bytesOf a0)), 0) else ([], 32))
theorem parse_bound {n k : Nat} (h : n < 10 ^ k) : (limbs n).length ≤ k := canon_len (canon_limbs n) (by
 rw [val_limbs]
 exact Nat.lt_of_lt_of_le h (Nat.pow_le_pow_left (by omega) _))
def strLen : Value → Nat
 | .string s => s.size
 | _ => 0
set_option maxHeartbeats 4000000 in
theorem parse_loop (s : ByteArray) (w : World) (h0 : 0 < s.size) (h1 : s.size ≤ 2400) (hd : digB (bytesOf s) = true) :
 Calls Tryz.prog 183 #[.string s] w fun e w' => ∃ v0_ : Value, e = .returned (.tuple #[v0_, .int .i64 0]) ∧ Kd.R (Kd.int .u32) 131 w' w.heap.size (fun _ => True) v0_ (limbs (dnum (bytesOf s))) ∧ Below w.heap.size w w' := by
 have hconv := fun W : World => print_bytes (P := Tryz.prog) 9 247 5 Tryz.underlying9 Tryz.underlying247 Tryz.underlying5 s W
 have hR := Lib.hid (bytes_reads w 5 s (by omega))
 have hB := Lib.hid (bytes_below (Below.refl w.heap.size w) (Nat.le_refl _) 5 s)
 have HD := Lib.hid hd
 have HL := Lib.hid (bytesOf_length s)
 rw [← HL.out] at hR
 obtain ⟨W, hW⟩ : ∃ W, W = Lib.bytesWorld w 5 s := ⟨_, rfl⟩
 rw [← hW] at hR hB
 have HW := Lib.hid hW
 clear hd hW
 go_enter Tryz.func183, Tryz.ntmps183
 go_wp2_with fail
 rw [← HW.out, ← HL.out]
 refine (contains_in _ _ (bytesOf s) _ hR.out (by have := HL.out; omega)).mono ?_
 rintro e w' ⟨rfl, rfl⟩
 rw [HD.out]
 go_wp2_with fail
 go_loopw [0, 4] (fun vs vo wr => ∃ (i : Nat) (t : ByteArray), i ≤ s.size ∧ vs = .string t ∧ Hid (bytesOf t = (bytesOf s).drop i) ∧ t.size = s.size - i ∧ Hid (Kd.R (Kd.int .u32) 131 wr w.heap.size (fun _ => True) vo (limbs (dnum ((bytesOf s).take i)))) ∧ Hid (Below w.heap.size w wr) ∧ (i = 0 ∨ (s.size - i) % 9 = 0)) (fun vs _ _ => strLen vs)
 case atStart =>
  refine ⟨0, s, Nat.zero_le _, rfl, Lib.hid rfl, rfl, Lib.hid ?_, hB, .inl rfl⟩
  have : limbs (dnum ((bytesOf s).take 0)) = [] := limbs_zero
  rw [this]
  exact Kd.R_nil _ _ _ _ _
 case round =>
  obtain ⟨i, t, hi, rfl, hT, htz, hO, hBl, hm9⟩ := hrel
  by_cases ht0 : t.size = 0
  · have ht : t = ⟨#[]⟩ := by
     cases t with
     | mk d => congr 1; exact Array.eq_empty_of_size_eq_zero ht0
    obtain rfl : i = s.size := by omega
    subst ht
    have e : Hid ((bytesOf s).take s.size = bytesOf s) := Lib.hid (by rw [← HL.out, List.take_length])
    rw [e.out] at hO
    go_wp2
    go_ret2
    exact ⟨_, rfl, hO.out, hBl.out⟩
  · obtain ⟨m, hm⟩ : ∃ m, m = (t.size - 1) % 9 + 1 := ⟨_, rfl⟩
    have hm1 : 1 ≤ m := by omega
    have hm2 : m ≤ t.size := by omega
    have hmz : m ≤ 9 := by omega
    have hmE : wrap64 ((wrap64 ((t.size : Int) - 1)).tmod 9 + 1) = (m : Int) := by rw [w64 ((t.size : Int) - 1) (by omega), Int.tmod_eq_emod_of_nonneg (by omega), w64 _ (by omega)]; omega
    have HME := Lib.hid hmE
    clear hmE
    have hne : t.toList.isEmpty = false := by
     rw [ByteArray.toList_eq, ← Bool.not_eq_true, List.isEmpty_iff]
     intro h
     have := congrArg List.length h
     rw [Array.length_toList] at this
     exact ht0 this
    have hdp : digB (bytesOf (t.extract 0 m)) = true := by
     rw [bytesOf_cut, hT.out]
     exact digB_take (digB_drop (digB_drop HD.out _) _) _
    have hsp : (t.extract 0 m).size = m := by simp; omega
    have hpl : dnum (bytesOf (t.extract 0 m)) < 1000000000 := by
     have := dnum_lt _ hdp
     rw [bytesOf_length, hsp] at this
     exact Nat.lt_of_lt_of_le this (Nat.pow_le_pow_right (n := 10) (by omega) hmz)
    obtain ⟨p, hp⟩ : ∃ p, p = dnum (bytesOf (t.extract 0 m)) := ⟨_, rfl⟩
    obtain ⟨N, hN⟩ : ∃ N, N = dnum ((bytesOf s).take i) := ⟨_, rfl⟩
    have hbt : bytesOf (t.extract 0 m) = ((bytesOf s).drop i).take m := by rw [bytesOf_cut, hT.out]; simp
    have hnext : Hid (dnum ((bytesOf s).take (i + m)) = N * 1000000000 + p) := Lib.hid (by
     have e : (bytesOf s).take (i + m) = (bytesOf s).take i ++ bytesOf (t.extract 0 m) := by rw [hbt, List.take_add]
     rw [e, dnum_app _ _ hdp, bytesOf_length, hsp, ← hN, ← hp]
     rcases hm9 with rfl | h9
     · rw [hN]; simp [dnum]
     · rw [show m = 9 by omega])
    have hNb : N < 10 ^ i := by
     have := dnum_lt _ (digB_take HD.out i)
     rw [List.length_take, HL.out, Nat.min_eq_left hi, ← hN] at this
     exact this
    have hNl := parse_bound hNb
    rw [← hN] at hO
    have HMUL : Hid (nat_num_mul.f 100000 (limbs N) [1000000000] = some (limbs (N * 1000000000))) := Lib.hid (by
     have := mul_eq (limbs N) [1000000000] (okL_limbs N) (by decide) (by omega) (by simp) 100000 (by simp; omega)
     rw [val_limbs] at this
     simpa [val] using this)
    have HOK : Hid (okL [(dnum (bytesOf (t.extract 0 m)) : Int)]) := Lib.hid (by rw [okL_cons]; exact ⟨by omega, okL_nil⟩)
    have HADD : Hid (nat_num_add.f (limbs (N * 1000000000)) (limbs (val [(dnum (bytesOf (t.extract 0 m)) : Int)])) = some (limbs (N * 1000000000 + p))) := Lib.hid (by
     have hz : (limbs (N * 1000000000)).length ≤ i + 9 := parse_bound (by rw [Nat.pow_add]; exact Nat.mul_lt_mul_of_lt_of_le hNb (Nat.le_refl _) (by omega))
     have hv : val [(dnum (bytesOf (t.extract 0 m)) : Int)] = p := by rw [hp]; simp [val]
     have hz2 : (limbs p).length ≤ 1 := canon_len (canon_limbs p) (by rw [val_limbs]; omega)
     unfold nat_num_add.f
     rw [hv, if_pos ⟨⟨okL_limbs _, okL_limbs _⟩, by omega, by omega⟩, val_limbs, val_limbs])
    have HP := Lib.hid hpl
    have HPE := Lib.hid hp
    have HDP := Lib.hid hdp
    clear hN hNb hpl hbt hdp
    rw [← hp] at HP
    obtain ⟨A, c, rfl⟩ := Kd.R_slice hO.out
    have hOC := Kd.R_reads' hO.out
    have HOC := Lib.hid hOC.2.2
    have hOc := hOC.2.1
    clear hOC
    have HTZ := Lib.hid htz
    have hm0 : (0 : Int) ≤ (m : Int) := by omega
    have hsl : ∀ W : World, (Instr.slice 9 (.string t) none (some (.int .i64 (m : Int))) none).run Tryz.prog W = .ok (.string (t.extract 0 m)) W := fun W => by
     have := run_slice_string_h (P := Tryz.prog) W 9 t Tryz.underlying9 .i64 (m : Int) (by omega) (by omega)
     simpa using this
    have HM := Lib.hid hm
    clear htz hm
    go_wp2_with fail
    simp only [HME.out]
    go_region_held3 (fun _ => True) (trivial) (first
     | (go_at_call 237; refine (nat_num_mul.calls 100000 A c (limbs N) _ 1 [1000000000] (limbs (N * 1000000000)) _ ?h1 hOc ?h2 (Nat.le_refl _) ?h3).mono ?_; (case h1 => exact Kd.C_alloc (Kd.C_drew HOC.out) _); (case h2 => exact one_C _ _); (case h3 => exact HMUL.out); rintro e w' ⟨v, rfl, hR1, hB1⟩; obtain ⟨A1, c1, rfl⟩ := Kd.R_slice hR1)
     | (go_at_call 238; refine (piece_in _ _ HDP.out (by rw [hsp]; exact hmz)).mono ?_; rintro e w' ⟨rfl, hB2⟩)
     | (go_at_call 149; refine (trim_C _ 1 [(dnum (bytesOf (t.extract 0 m)) : Int)] _ (one_C _ _) (Nat.le_refl _) HOK.out (by simp)).mono ?_; rintro e w' ⟨rfl, A2, c2, rfl, hc2, hC2⟩)
     | (go_at_call 226; refine (nat_num_add.calls _ _ _ _ _ _ (limbs (N * 1000000000 + p)) _ ?h1 ?h2 ?h3 ?h4 ?h5).mono ?_; (case h1 => exact Kd.C_alloc (Kd.C_below (Kd.R_reads' hR1).2.2 hB2) _); (case h2 => exact (Kd.R_reads' hR1).2.1); (case h3 => exact hC2); (case h4 => exact hc2); (case h5 => exact HADD.out); rintro e w' ⟨v, rfl, hR3, hB3⟩))
    have hR3' := Lib.hid hR3
    have hB3' := Lib.hid hB3
    have hB1' := Lib.hid hB1
    have hB2' := Lib.hid hB2
    clear hR3 hB3 hB1 hB2 hC2 hc2 hR1
    have hbl := hBl.out
    have hb1 := hB1'.out
    have hb2 := hB2'.out
    have hb3 := hB3'.out
    have hz1 := hbl.size
    have hz2 := hb1.size
    have hz3 := hb2.size
    have hz4 := hb3.size
    simp only [World.size_alloc, World.size_drew] at hz2 hz3 hz4 hb1 hb3 hR3'
    have b1 : Below w.heap.size w (wr.alloc (.cells #[.int .u32 1000000000] 131)).drew := below_drew (hbl.alloc hz1 _)
    have b2 := b1.trans (hb1.mono (by omega))
    have b3 := b2.trans (hb2.mono (by omega))
    have b4 := b3.alloc (by omega) (.cells #[.int .u32 (dnum (bytesOf (t.extract 0 m)) : Int)] 131)
    have hfin := Lib.hid (b4.trans (hb3.mono (by omega)))
    have hRf := Lib.hid (Kd.R_lower hR3'.out (show w.heap.size ≤ _ by omega))
    clear hbl hb1 hb2 hb3 b1 b2 b3 b4 hz1 hz2 hz3 hz4
    go_wp2
    refine ⟨⟨i + m, t.extract m t.size, by have := HTZ.out; omega, rfl, Lib.hid ?_, ?_, ?_, hfin, ?_⟩, ?_⟩
    · rw [bytesOf_cut, hT.out, List.drop_drop, List.take_of_length_le]
      rw [List.length_drop, HL.out]
      have := HTZ.out
      omega
    · have := HTZ.out
      simp
      omega
    · rw [hnext.out]; exact hRf
    · rcases hm9 with rfl | h9
      · exact .inr (by have := HTZ.out; have := HM.out; omega)
      · exact .inr (by have := HTZ.out; have := HM.out; omega)
    · simp [strLen]; omega
theorem nat_Parse.calls (a0 : ByteArray) (r1 : List Int) (r2 : Int) (w : World) (h : nat_Parse.f a0 = some (r1, r2)) :
 Calls Tryz.prog 183 #[.string a0] w fun e w' => ∃ v0_ : Value, e = .returned (.tuple #[v0_, .int .i64 r2]) ∧ Kd.R (Kd.int .u32) 131 w' w.heap.size (fun _ => True) v0_ r1 ∧ Below w.heap.size w w' := by
 unfold nat_Parse.f at h
 have h := Option.some.inj h
 by_cases h0 : a0.size = 0
 · rw [if_pos h0] at h
   obtain ⟨rfl, rfl⟩ : [] = r1 ∧ 8 = r2 := ⟨congrArg Prod.fst h, congrArg Prod.snd h⟩
   clear h
   go_enter Tryz.func183, Tryz.ntmps183
   go_wp2
   go_ret2
   exact ⟨_, rfl, Kd.R_nil _ _ _ _ _, Below.refl _ _⟩
 rw [if_neg h0] at h
 by_cases h1 : a0.size > 2400
 · rw [if_pos h1] at h
   obtain ⟨rfl, rfl⟩ : [] = r1 ∧ 5 = r2 := ⟨congrArg Prod.fst h, congrArg Prod.snd h⟩
   clear h
   go_enter Tryz.func183, Tryz.ntmps183
   go_wp2
   go_ret2
   exact ⟨_, rfl, Kd.R_nil _ _ _ _ _, Below.refl _ _⟩
 rw [if_neg h1] at h
 by_cases h2 : digB (bytesOf a0) = true
 · rw [if_pos h2] at h
   obtain ⟨rfl, rfl⟩ : limbs (dnum (bytesOf a0)) = r1 ∧ 0 = r2 := ⟨congrArg Prod.fst h, congrArg Prod.snd h⟩
   exact parse_loop a0 w (by omega) (by omega) h2
 · rw [if_neg h2] at h
   obtain ⟨rfl, rfl⟩ : [] = r1 ∧ 32 = r2 := ⟨congrArg Prod.fst h, congrArg Prod.snd h⟩
   clear h
   have hconv := fun W : World => print_bytes (P := Tryz.prog) 9 247 5 Tryz.underlying9 Tryz.underlying247 Tryz.underlying5 a0 W
   have hR := Lib.hid (bytes_reads w 5 a0 (by omega))
   have hB := Lib.hid (bytes_below (Below.refl w.heap.size w) (Nat.le_refl _) 5 a0)
   have HL := Lib.hid (bytesOf_length a0)
   rw [← HL.out] at hR
   obtain ⟨W, hW⟩ : ∃ W, W = Lib.bytesWorld w 5 a0 := ⟨_, rfl⟩
   rw [← hW] at hR hB
   have HW := Lib.hid hW
   have HD : Hid (digB (bytesOf a0) = false) := Lib.hid (by simpa using h2)
   clear h2 hW
   go_enter Tryz.func183, Tryz.ntmps183
   go_wp2_with fail
   rw [← HW.out, ← HL.out]
   refine (contains_in _ _ (bytesOf a0) _ hR.out (by have := HL.out; omega)).mono ?_
   rintro e w' ⟨rfl, rfl⟩
   rw [HD.out]
   go_wp2
   go_ret2
   exact ⟨_, rfl, Kd.R_nil _ _ _ _ _, hB.out⟩
end Go.Proofs.YthigbklhngihkaaGreatDoor.P
