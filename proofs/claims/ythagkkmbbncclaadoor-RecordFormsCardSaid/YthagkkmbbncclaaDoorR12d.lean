import Derived.Test.YthagkkmbbncclaaDoorR12
namespace Go.Proofs.YthagkkmbbncclaaDoor
open Go Go.Mv
set_option maxRecDepth 8000
def mkQ (d : Nat × Nat) (l : List Nat) (b : List UInt8) (h : Bool) : Rec := ⟨d.1, d.2, vecOf l, ⟨b.toArray⟩, h, fun _ => 0⟩
def tipTo (t : List UInt8) (i : Nat) : Nat → Int := fun j => bif Nat.blt j i then tipOf t j else 0
theorem put_rec_hp {cs : Array Value} {b : Nat} {T : TypeId} {fz : Nat × Nat} {R : Mem} {w : World} {q : Rec} (h : Hp ((b, .cells (putL cs 0 (recV q).cells.toList) T fz) :: R) w) (hs : cs.size = 52) : Hp ((b, .cells (recV q).cells T fz) :: R) w := by
  rw [putL_whole (by rw [hs, Array.length_toList, rec_sz])] at h
  exact h
theorem bd_rec4 (d : Nat × Nat) (l : List Nat) (b : List UInt8) (h : Bool) (w : World) : (Instr.build 30 #[(0, dotV d.1 d.2), (1, vecV (vecOf l)), (2, .string ⟨b.toArray⟩), (3, .bool h)]).run Tryd.prog w = .ok (recV (mkQ d l b h)) w := by
  simp [Instr.build, Tryd.zeroValue30, Tryd.runUnderlying30, Tryd.sizeOf23, Tryd.sizeOf26, Tryd.sizeOf9, Tryd.sizeOf4, Value.cells, Instr.fill, dotV, vecV, recV, mkQ]
theorem mkQ_ok {d : Nat × Nat} {l : List Nat} {b : List UInt8} {h : Bool} (hd : dotOk d.1 d.2 = true) (hl : VecOk (vecOf l)) : RecOk (mkQ d l b h) := by
  have ha := dotOk_iff.1 hd
  exact ⟨⟨by show (-9223372036854775808 : Int) ≤ d.1; omega, by show (d.1 : Int) ≤ 9223372036854775807; omega⟩, ⟨by show (-9223372036854775808 : Int) ≤ d.2; omega, by show (d.2 : Int) ≤ 9223372036854775807; omega⟩, hl, fun i => by simp [mkQ]⟩
theorem tipTo_next (q : Rec) {t : List UInt8} {i : Nat} (hi : i < 32) (ht : t.length = 32) : (recV { q with tip := tipTo t i }).cells.setIfInBounds (20 + (i : Int).toNat * 1) (bcell (t[i]'(by omega))) = (recV { q with tip := tipTo t (i + 1) }).cells := by
  rw [Int.toNat_natCast, Nat.mul_one]
  apply Array.ext_getElem?
  intro k
  by_cases hk : 20 + i = k
  · subst hk
    rw [Array.getElem?_setIfInBounds_self_of_lt (by rw [rec_sz]; omega), rec_tip_at _ hi]
    have h1 : Nat.blt i (i + 1) = true := by simp
    simp [tipTo, h1, tipOf, bcell, List.getD_eq_getElem?_getD, ht, hi]
  · rw [Array.getElem?_setIfInBounds_ne hk]
    by_cases h1 : k < 20
    · exact (rec_low q _ h1).trans (rec_low q _ h1).symm
    · by_cases h2 : k < 52
      · obtain ⟨j, hj, rfl⟩ : ∃ j, j < 32 ∧ k = 20 + j := ⟨k - 20, by omega, by omega⟩
        rw [rec_tip_at _ hj, rec_tip_at _ hj]
        have : Nat.blt j i = Nat.blt j (i + 1) := by
          apply Bool.eq_iff_iff.2; simp; omega
        simp only [tipTo, this]
      · rw [Array.getElem?_eq_none (by rw [rec_sz]; omega), Array.getElem?_eq_none (by rw [rec_sz]; omega)]
theorem tipTo_same (q : Rec) (t : List UInt8) : recV { q with tip := tipTo t 32 } = recV { q with tip := tipOf t } :=
  SameR.recV ⟨rfl, rfl, fun _ _ => rfl, rfl, rfl, fun i hi => by show tipTo t 32 i = tipOf t i; simp only [tipTo, show Nat.blt i 32 = true from by simpa using hi, cond_true]⟩
theorem tipTo_zero (q : Rec) (t : List UInt8) (hq : q.tip = fun _ => 0) : recV q = recV { q with tip := tipTo t 0 } :=
  SameR.recV ⟨rfl, rfl, fun _ _ => rfl, rfl, rfl, fun i hi => by show q.tip i = tipTo t 0 i; rw [hq]; show (0 : Int) = bif Nat.blt i 0 then _ else 0; rw [show Nat.blt i 0 = false from rfl]; rfl⟩
theorem byte_get {t : List UInt8} {tl : List Value} {i : Nat} (h : i < t.length) : cget (bcells t ++ tl).toArray (0 + (i : Int).toNat * 1) = some (bcell (t[i]'h)) := by
  rw [cget_eq, Int.toNat_natCast, Nat.mul_one, Nat.zero_add, List.getElem?_toArray, List.getElem?_append_left (by simpa using h), bcells_get, List.getElem?_eq_getElem h]; rfl
theorem rd_F {ys r1 r2 r3 r4 b : List UInt8} {d : Nat × Nat} {l : List Nat} {n : Nat} (h1 : dotD ys = .ok d r1) (h2 : vecD r1 = .ok l r2) (h3 : bytesD 100 r2 = .ok b r3) (h4 : numD 1 r3 = .ok n r4) (hn : ¬ n = 1) : recD ys = fineD (mkQ d l b (decide (n = 1))) r4 := by
  simp only [recD, h1, h2, h3, h4, mkQ, hn, decide_false, if_false]
theorem rd_E {ys r1 r2 r3 r4 b : List UInt8} {d : Nat × Nat} {l : List Nat} {n : Nat} {e : Int} (h1 : dotD ys = .ok d r1) (h2 : vecD r1 = .ok l r2) (h3 : bytesD 100 r2 = .ok b r3) (h4 : numD 1 r3 = .ok n r4) (hn : n = 1) (h5 : rawD 32 r4 = .err e) : recD ys = .err e := by
  simp only [recD, h1, h2, h3, h4, if_pos hn, h5]
theorem rd_T {ys r1 r2 r3 r4 r5 b t : List UInt8} {d : Nat × Nat} {l : List Nat} {n : Nat} (h1 : dotD ys = .ok d r1) (h2 : vecD r1 = .ok l r2) (h3 : bytesD 100 r2 = .ok b r3) (h4 : numD 1 r3 = .ok n r4) (hn : n = 1) (h5 : rawD 32 r4 = .ok t r5) : recD ys = fineD { mkQ d l b (decide (n = 1)) with tip := tipOf t } r5 := by
  simp only [recD, h1, h2, h3, h4, h5, mkQ, hn, decide_true, if_true]
theorem fine_T {q : Rec} {r : List UInt8} (h : recOkB q = true) : fineD q r = .ok q r := by simp only [fineD, h, cond_true]
theorem fine_F {q : Rec} {r : List UInt8} (h : recOkB q = false) : fineD q r = .err 120 := by simp only [fineD, h, cond_false]

set_option maxHeartbeats 4000000 in

theorem c_r12Dec (HX : Mem) (s : Nat) (sv : Value) (ys : List UInt8) (w : World) (hb : Rdb HX sv ys) (hlen : ys.length ≤ 2199023255552) (hw : Hp (rsrcM s sv HX) w) : Calls Tryd.prog 18 #[.pointer (some ⟨s, 0, none⟩)] w (Ret w (keys (rsrcM s sv HX)) (RReads HX s recV (recV zeroR) ys (recD ys))) := by
  refine fn_enter (args := [_]) Tryd.func18 rfl Tryd.ntmps18 rfl hw ?_
  refine pn_seq ?_
  refine pn_plain [] rfl ?_
  refine TE_alloc rfl Tryd.zeroValue30 trivial rfl fun b2 hb2 => ?_
  refine TE_q rfl rfl (RD.assign rfl) rfl ?_
  refine TE_nil0 ?_
  refine pn_seq ?_
  refine pn_plain [] rfl ?_
  refine TE_q rfl rfl (RD.build rfl bd_rec0) rfl ?_
  refine TE_alloc rfl Tryd.zeroValue30 trivial rfl fun b4 hb4 => ?_
  refine TE_put (i := 0) rfl Tryd.sizeOf30 trivial rfl rfl rfl rfl rfl rfl (.inl hb4) ?_
  refine TE_nil0 ?_
  refine pn_seq ?_
  refine pn_plain [] rfl ?_
  refine TE_q rfl rfl (RD.move rfl) rfl ?_
  refine TE_callT [_, _] (rsrcM s sv HX) rfl rfl rfl trivial Tryd.call42 rfl rfl rfl (fun e he => .inr (mem_keys.2 ⟨e, he, rfl⟩)) (fun w hs' => c_r5Dec HX s sv ys w hb (by omega) (hs'.hp.left.right (A := [_, _]))) ?_
  rintro v19 H1 (⟨d, r1, v1, hd1, rfl, rfl, hq1, hl1⟩ | ⟨e, v1, r1, hd1, he, rfl, rfl, hq1, hl1⟩) hX1
  · refine TE_q rfl rfl (RD.move rfl) rfl ?_
    refine TE_q rfl rfl (RD.extract rfl rfl) rfl ?_
    refine TE_q rfl rfl (RD.extract rfl rfl) rfl ?_
    refine TE_alloc rfl Tryd.zeroValue23 trivial rfl fun b5 hb5 => ?_
    refine TE_put (i := 0) rfl Tryd.sizeOf23 trivial rfl rfl rfl rfl rfl rfl (.inl hb5) ?_
    refine TE_q rfl rfl (RD.assign rfl) rfl ?_
    refine TE_nil0 ?_
    refine pn_seq ?_
    refine pn_seq ?_
    refine pn_plain [] rfl ?_
    refine TE_q rfl rfl (RD.move rfl) rfl ?_
    refine TE_q rfl rfl (RD.neq rfl rfl) rfl ?_
    refine TE_nil0 ?_
    refine pn_condF rfl ?_
    refine pn_skip ?_
    refine pn_seq ?_
    refine pn_plain [] rfl ?_
    refine TE_q rfl rfl (RD.move rfl) rfl ?_
    refine TE_callT [_, _, _] (rsrcM s v1 HX) rfl rfl rfl trivial Tryd.call43 rfl rfl rfl hX1 (fun w hs' => c_r6Dec HX s v1 r1 w hq1 (by omega) (hs'.hp.left.right (A := [_, _, _]))) ?_
    rintro v28 H1 (⟨l, r2, v2, hd2, rfl, rfl, hq2, hl2⟩ | ⟨e, v2, r2, hd2, he, rfl, rfl, hq2, hl2⟩) hX2
    · refine TE_q rfl rfl (RD.move rfl) rfl ?_
      refine TE_q rfl rfl (RD.extract rfl rfl) rfl ?_
      refine TE_q rfl rfl (RD.extract rfl rfl) rfl ?_
      refine TE_alloc rfl Tryd.zeroValue26 trivial rfl fun b7 hb7 => ?_
      refine TE_put (i := 0) rfl Tryd.sizeOf26 trivial rfl rfl rfl rfl rfl rfl (.inl hb7) ?_
      refine TE_q rfl rfl (RD.assign rfl) rfl ?_
      refine TE_nil0 ?_
      refine pn_seq ?_
      refine pn_seq ?_
      refine pn_plain [] rfl ?_
      refine TE_q rfl rfl (RD.move rfl) rfl ?_
      refine TE_q rfl rfl (RD.neq rfl rfl) rfl ?_
      refine TE_nil0 ?_
      refine pn_condF rfl ?_
      refine pn_skip ?_
      refine pn_seq ?_
      refine pn_plain [] rfl ?_
      refine TE_q rfl rfl (RD.move rfl) rfl ?_
      refine TE_callT [_, _, _, _] (rsrcM s v2 HX) rfl rfl rfl trivial Tryd.call44 rfl rfl rfl hX2 (fun w hs' => c_rsBytes HX s 100 v2 r2 w hq2 (by omega) (by decide) (hs'.hp.left.right (A := [_, _, _, _]))) ?_
      rintro v37 H1 (⟨b, r3, v3, x, H2, hd3, rfl, hr3, rfl, hq3, hl3⟩ | ⟨e, v3, r3, hd3, he, rfl, rfl, hq3, hl3⟩) hX3
      · refine TE_q rfl rfl (RD.move rfl) rfl ?_
        refine TE_q rfl rfl (RD.extract rfl rfl) rfl ?_
        refine TE_q rfl rfl (RD.extract rfl rfl) rfl ?_
        refine TE_q rfl rfl (RD.assign rfl) rfl ?_
        refine TE_q rfl rfl (RD.assign rfl) rfl ?_
        refine TE_nil0 ?_
        refine pn_seq ?_
        refine pn_seq ?_
        refine pn_plain [] rfl ?_
        refine TE_q rfl rfl (RD.move rfl) rfl ?_
        refine TE_q rfl rfl (RD.neq rfl rfl) rfl ?_
        refine TE_nil0 ?_
        refine pn_condF rfl ?_
        refine pn_skip ?_
        refine pn_seq ?_
        refine pn_plain [] rfl ?_
        refine TE_q rfl rfl (RD.move rfl) rfl ?_
        refine TE_callT (_ :: _ :: _ :: _ :: H2) (rsrcM s v3 HX) rfl rfl rfl trivial Tryd.call45 rfl rfl rfl (fun e he => (in_rsrc e he).symm) (fun w hs' => c_rsNum HX s 1 v3 r3 w hq3 (by omega) (hs'.hp.left.right (A := _ :: _ :: _ :: _ :: H2))) ?_
        rintro v46 H1 (⟨n, r4, v4, hd4, rfl, rfl, hq4, hl4⟩ | ⟨e, v4, r4, hd4, he, rfl, rfl, hq4, hl4⟩) hX4
        · refine TE_q rfl rfl (RD.move rfl) rfl ?_
          refine TE_q rfl rfl (RD.extract rfl rfl) rfl ?_
          refine TE_q rfl rfl (RD.extract rfl rfl) rfl ?_
          refine TE_q rfl rfl (RD.assign rfl) rfl ?_
          refine TE_q rfl rfl (RD.assign rfl) rfl ?_
          refine TE_nil0 ?_
          refine pn_seq ?_
          refine pn_seq ?_
          refine pn_plain [] rfl ?_
          refine TE_q rfl rfl (RD.move rfl) rfl ?_
          refine TE_q rfl rfl (RD.neq rfl rfl) rfl ?_
          refine TE_nil0 ?_
          refine pn_condF rfl ?_
          refine pn_skip ?_
          refine pn_seq ?_
          refine pn_plain [] rfl ?_
          refine TE_l rfl rfl trivial rfl (RD.loadA (v := dotV d.1 d.2) (i := 1) Tryd.isAgg23 Tryd.sizeOf23 rfl rfl (by rw [size_putL]; exact Nat.le_of_ble_eq_true rfl) (put_agg rfl rfl rfl rfl)) rfl ?_
          refine TE_l rfl rfl trivial rfl (RD.loadA (v := vecV (vecOf l)) (i := 0) Tryd.isAgg26 Tryd.sizeOf26 rfl rfl (by rw [size_putL]; exact Nat.le_of_ble_eq_true rfl) (put_agg rfl rfl rfl rfl)) rfl ?_
          refine TE_q rfl rfl (RD.move rfl) rfl ?_
          refine TE_l rfl rfl trivial rfl (RD.str_of_bytes Tryd.underlying35 Tryd.underlying9 Tryd.underlying5 rfl (hr3.bytes.mono (fun w h => (Hp.right (A := [_, _, _, _]) h.left).left))) rfl ?_
          refine TE_q rfl rfl (RD.move rfl) rfl ?_
          refine TE_q rfl rfl (RD.as (v := .bool (decide (n = 1))) (RD.eql rfl rfl) (by congr 1; exact decide_eq_decide.2 (by omega))) rfl ?_
          refine TE_q rfl rfl (RD.build rfl (bd_rec4 d l b _)) rfl ?_
          refine TE_put (i := 2) rfl Tryd.sizeOf30 trivial rfl rfl rfl rfl rfl rfl (.inl hb4) ?_
          refine TE_nil0 ?_
          refine pn_seq ?_
          refine pn_seq ?_
          refine pn_perm ((b4, .cells (recV (mkQ d l b (decide (n = 1)))).cells 30 (0, 0)) :: (b2, .cells (recV zeroR).cells 30 (0, 0)) :: rsrcM s v4 HX) (fun w h => put_rec_hp (h.sub (.cons _ (.cons _ (.cons_cons _ (.cons_cons _ (List.sublist_append_right H2 _)))))) rfl) ?_
          refine pn_plain [] rfl ?_
          refine TE_q rfl rfl (RD.fieldAddr (o := 19) Tryd.runUnderlying30 rfl rfl Tryd.sizeOf4 rfl) rfl ?_
          refine TE_l rfl rfl trivial rfl (RD.load (i := 0) Tryd.isAgg4 rfl rfl rfl) rfl ?_
          refine TE_nil0 ?_
          first | refine pn_condD rfl (fun hc4 => ?_) (fun hc4 => ?_) | refine pn_condN rfl (fun hc4 => ?_) (fun hc4 => ?_) | refine pn_cond rfl (fun hc4 => ?_) (fun hc4 => ?_)
          · refine pn_seq ?_
            refine pn_plain [] rfl ?_
            refine TE_q rfl rfl (RD.move rfl) rfl ?_
            refine TE_callT [_, _] (rsrcM s v4 HX) rfl rfl rfl trivial Tryd.call46 rfl rfl rfl (fun e he => (in_rsrc e he).symm) (fun w hs' => c_rsRaw HX s 32 v4 r4 w hq4 (by omega) (hs'.hp.left.right (A := [_, _]))) ?_
            rintro v64 H1 (⟨t, r5, v5, y, H3, hd5, rfl, hr5, rfl, hq5, hl5⟩ | ⟨e, v5, r5, hd5, he, rfl, rfl, hq5, hl5⟩) hX5
            · have ht := (rawD_ok hd5).2; obtain ⟨bt, capt, tlt, rfl, rfl⟩ := retB_some hr5 (by omega)
              refine TE_q rfl rfl (RD.move rfl) rfl ?_
              refine TE_q rfl rfl (RD.extract rfl rfl) rfl ?_
              refine TE_q rfl rfl (RD.extract rfl rfl) rfl ?_
              refine TE_q rfl rfl (RD.assign rfl) rfl ?_
              refine TE_q rfl rfl (RD.assign rfl) rfl ?_
              refine TE_nil0 ?_
              refine pn_seq ?_
              refine pn_seq ?_
              refine pn_plain [] rfl ?_
              refine TE_q rfl rfl (RD.move rfl) rfl ?_
              refine TE_q rfl rfl (RD.neq rfl rfl) rfl ?_
              refine TE_nil0 ?_
              refine pn_condF rfl ?_
              refine pn_skip ?_
              refine pn_seq ?_
              refine pn_perm ((b4, .cells (recV ({ mkQ d l b (decide (n = 1)) with tip := tipTo t 0 })).cells 30 (0, 0)) :: (b2, .cells (recV zeroR).cells 30 (0, 0)) :: (bt, .cells (bcells t ++ tlt).toArray 5 (0, 0)) :: rsrcM s v5 HX) (fun w h => by rw [← tipTo_zero _ t rfl]; exact h) ?_
              refine pn_plain [] rfl ?_
              refine TE_q rfl rfl (RD.assign rfl) rfl ?_
              refine TE_nil0 ?_
              refine pn_block ?_
              refine pn_loop (σ := Nat) (fun i => [(15, .int .i64 (i : Int)), (13, .slice (some ⟨bt, 0, none⟩) t.length capt), (4, .pointer (some ⟨b4, 0, none⟩)), (2, .pointer (some ⟨b2, 0, none⟩)), (0, .pointer (some ⟨s, 0, none⟩))]) (fun i => (b4, .cells (recV ({ mkQ d l b (decide (n = 1)) with tip := tipTo t i })).cells 30 (0, 0)) :: (b2, .cells (recV zeroR).cells 30 (0, 0)) :: (bt, .cells (bcells t ++ tlt).toArray 5 (0, 0)) :: rsrcM s v5 HX) (fun i => i ≤ 32) (fun i => 32 - i) 0 (by decide) ⟨rfl, rfl, rfl, rfl, rfl, trivial⟩ (List.Sublist.refl _) ?_
              intro i hi
              refine pn_seq ?_
              refine pn_seq ?_
              refine pn_plain [] rfl ?_
              refine TE_q rfl rfl (RD.move rfl) rfl ?_
              refine TE_q rfl rfl (RD.lss rfl rfl) rfl ?_
              refine TE_nil0 ?_
              first | refine pn_condD rfl (fun hc6 => ?_) (fun hc6 => ?_) | refine pn_condN rfl (fun hc6 => ?_) (fun hc6 => ?_) | refine pn_cond rfl (fun hc6 => ?_) (fun hc6 => ?_)
              · refine pn_skip ?_
                refine pn_seq ?_
                refine pn_block ?_
                refine pn_plain [] rfl ?_
                refine TE_q rfl rfl (RD.move rfl) rfl ?_
                have hi32 : i < 32 := (by omega)
                refine TE_q rfl rfl (RD.move rfl) rfl ?_
                refine TE_q rfl rfl (RD.move rfl) rfl ?_
                refine TE_q rfl rfl (RD.indexAddrS Tryd.runUnderlying35 Tryd.sizeOf5 rfl rfl (by omega) (by omega)) rfl ?_
                refine TE_l rfl rfl trivial rfl (RD.load (i := 2) Tryd.isAgg5 rfl rfl (byte_get (by omega))) rfl ?_
                refine TE_q rfl rfl (RD.fieldAddr (o := 20) Tryd.runUnderlying30 rfl rfl Tryd.sizeOf28 rfl) rfl ?_
                refine TE_q rfl rfl (RD.indexAddrA Tryd.runUnderlying28 Tryd.sizeOf5 rfl rfl (by omega) (by omega)) rfl ?_
                refine TE_store (i := 0) rfl Tryd.sizeOf5 trivial rfl rfl rfl rfl rfl (by rw [rec_sz]; simp; omega) (.inl hb4) ?_
                refine TE_nil0 ?_
                refine pn_perm ((b4, .cells (recV ({ mkQ d l b (decide (n = 1)) with tip := tipTo t (i + 1) })).cells 30 (0, 0)) :: (b2, .cells (recV zeroR).cells 30 (0, 0)) :: (bt, .cells (bcells t ++ tlt).toArray 5 (0, 0)) :: rsrcM s v5 HX) (fun w h => by rw [← tipTo_next _ hi32 ht]; exact h) ?_
                refine pn_plain [] rfl ?_
                refine TE_q rfl rfl (RD.move rfl) rfl ?_
                refine TE_q rfl rfl (RD.addI rfl rfl (by omega) (by omega)) rfl ?_
                refine TE_q rfl rfl (RD.assign rfl) rfl ?_
                refine TE_nil0 ?_
                (exact pn_again (i + 1) (by omega) (by show 32 - (i + 1) < 32 - i; omega) ⟨rfl, rfl, rfl, rfl, rfl, trivial⟩ (List.Sublist.refl _))
              · refine pn_exit ?_
                refine pn_seq ?_
                refine pn_seq ?_
                obtain rfl : i = 32 := (by omega); refine pn_perm ((b4, .cells (recV ({ mkQ d l b (decide (n = 1)) with tip := tipOf t })).cells 30 (0, 0)) :: (b2, .cells (recV zeroR).cells 30 (0, 0)) :: rsrcM s v5 HX) (fun w h => by rw [← tipTo_same]; exact h.sub (.cons_cons _ (.cons_cons _ (List.sublist_cons_self _ _)))) ?_
                refine pn_plain [] rfl ?_
                refine TE_l rfl rfl trivial rfl (RD.loadA (v := recV { mkQ d l b (decide (n = 1)) with tip := tipOf t }) (i := 0) Tryd.isAgg30 Tryd.sizeOf30 rfl rfl (Nat.le_of_ble_eq_true rfl) (rec_all _)) rfl ?_
                refine TE_call rfl rfl trivial Tryd.call20 rfl rfl rfl (fun w hs' => c_r12Check { mkQ d l b (decide (n = 1)) with tip := tipOf t } w ⟨(mkQ_ok (h := decide (n = 1)) (b := b) (dotD_ok hd1).2 (vecD_ok hd2).2.1).s, (mkQ_ok (h := decide (n = 1)) (b := b) (dotD_ok hd1).2 (vecD_ok hd2).2.1).c, (vecD_ok hd2).2.1, tipOf_ok t⟩) ?_
                rintro v83 H1 ⟨rfl, rfl⟩ -
                refine TE_q rfl rfl (RD.neq rfl rfl) rfl ?_
                refine TE_nil0 ?_
                first | refine pn_condD rfl (fun hc7 => ?_) (fun hc7 => ?_) | refine pn_condN rfl (fun hc7 => ?_) (fun hc7 => ?_) | refine pn_cond rfl (fun hc7 => ?_) (fun hc7 => ?_)
                · refine pn_seq ?_
                  refine pn_plain [] rfl ?_
                  refine TE_q rfl rfl (RD.build rfl bd_rec0) rfl ?_
                  refine TE_put (i := 1) rfl Tryd.sizeOf30 trivial rfl rfl rfl rfl rfl rfl (.inl hb2) ?_
                  refine TE_q rfl rfl (RD.assign rfl) rfl ?_
                  refine TE_nil0 ?_
                  refine pn_ret ?_
                  exact pn_doneF rfl ⟨recV zeroR, _, b2, 0, rfl, rfl, load_agg (i := 1) Tryd.isAgg30 Tryd.sizeOf30 rfl (by first | (rw [size_putL]; exact Nat.le_of_ble_eq_true rfl) | exact Nat.le_of_ble_eq_true rfl) (put_agg rfl rfl rfl rfl), _, _, rfl, rfl, rfl⟩ (.inr ⟨120, _, r5, by rw [rd_T hd1 hd2 hd3 hd4 hc4 hd5]; exact fine_F (err1 hc7), by decide, rfl, rfl, hq5, by omega⟩) (fun w h => h.sub (.cons _ (.cons _ (List.Sublist.refl _)))) in_rsrc
                · refine pn_skip ?_
                  refine pn_seq ?_
                  refine pn_plain [] rfl ?_
                  refine TE_l rfl rfl trivial rfl (RD.loadA (v := recV { mkQ d l b (decide (n = 1)) with tip := tipOf t }) (i := 0) Tryd.isAgg30 Tryd.sizeOf30 rfl rfl (Nat.le_of_ble_eq_true rfl) (rec_all _)) rfl ?_
                  refine TE_put (i := 1) rfl Tryd.sizeOf30 trivial rfl rfl rfl rfl rfl rfl (.inl hb2) ?_
                  refine TE_q rfl rfl (RD.assign rfl) rfl ?_
                  refine TE_nil0 ?_
                  refine pn_ret ?_
                  exact pn_doneF rfl ⟨recV { mkQ d l b (decide (n = 1)) with tip := tipOf t }, _, b2, 0, rfl, rfl, load_agg (i := 1) Tryd.isAgg30 Tryd.sizeOf30 rfl (by first | (rw [size_putL]; exact Nat.le_of_ble_eq_true rfl) | exact Nat.le_of_ble_eq_true rfl) (put_agg rfl rfl rfl rfl), _, _, rfl, rfl, rfl⟩ (.inl ⟨_, r5, _, by rw [rd_T hd1 hd2 hd3 hd4 hc4 hd5]; exact fine_T (err0 hc7), rfl, rfl, hq5, by omega⟩) (fun w h => h.sub (.cons _ (.cons _ (List.Sublist.refl _)))) in_rsrc
            · refine TE_q rfl rfl (RD.move rfl) rfl ?_
              refine TE_q rfl rfl (RD.extract rfl rfl) rfl ?_
              refine TE_q rfl rfl (RD.extract rfl rfl) rfl ?_
              refine TE_q rfl rfl (RD.assign rfl) rfl ?_
              refine TE_q rfl rfl (RD.assign rfl) rfl ?_
              refine TE_nil0 ?_
              refine pn_seq ?_
              refine pn_seq ?_
              refine pn_plain [] rfl ?_
              refine TE_q rfl rfl (RD.move rfl) rfl ?_
              refine TE_q rfl rfl (RD.as (v := .bool true) (RD.neq rfl rfl) (by rw [decide_eq_false he]; rfl)) rfl ?_
              refine TE_nil0 ?_
              refine pn_condT rfl ?_
              refine pn_seq ?_
              refine pn_plain [] rfl ?_
              refine TE_q rfl rfl (RD.build rfl bd_rec0) rfl ?_
              refine TE_q rfl rfl (RD.move rfl) rfl ?_
              refine TE_put (i := 1) rfl Tryd.sizeOf30 trivial rfl rfl rfl rfl rfl rfl (.inl hb2) ?_
              refine TE_q rfl rfl (RD.assign rfl) rfl ?_
              refine TE_nil0 ?_
              refine pn_ret ?_
              exact pn_doneF rfl ⟨recV zeroR, _, b2, 0, rfl, rfl, load_agg (i := 1) Tryd.isAgg30 Tryd.sizeOf30 rfl (by first | (rw [size_putL]; exact Nat.le_of_ble_eq_true rfl) | exact Nat.le_of_ble_eq_true rfl) (put_agg rfl rfl rfl rfl), _, _, rfl, rfl, rfl⟩ (.inr ⟨e, _, _, rd_E hd1 hd2 hd3 hd4 hc4 hd5, he, rfl, rfl, hq5, by omega⟩) (fun w h => h.sub (.cons _ (.cons _ (List.Sublist.refl _)))) in_rsrc
          · refine pn_skip ?_
            refine pn_seq ?_
            refine pn_seq ?_
            refine pn_plain [] rfl ?_
            refine TE_l rfl rfl trivial rfl (RD.loadA (v := recV (mkQ d l b (decide (n = 1)))) (i := 0) Tryd.isAgg30 Tryd.sizeOf30 rfl rfl (Nat.le_of_ble_eq_true rfl) (rec_all _)) rfl ?_
            refine TE_call rfl rfl trivial Tryd.call20 rfl rfl rfl (fun w hs' => c_r12Check (mkQ d l b (decide (n = 1))) w (mkQ_ok (dotD_ok hd1).2 (vecD_ok hd2).2.1)) ?_
            rintro v83 H1 ⟨rfl, rfl⟩ -
            refine TE_q rfl rfl (RD.neq rfl rfl) rfl ?_
            refine TE_nil0 ?_
            first | refine pn_condD rfl (fun hc6 => ?_) (fun hc6 => ?_) | refine pn_condN rfl (fun hc6 => ?_) (fun hc6 => ?_) | refine pn_cond rfl (fun hc6 => ?_) (fun hc6 => ?_)
            · refine pn_seq ?_
              refine pn_plain [] rfl ?_
              refine TE_q rfl rfl (RD.build rfl bd_rec0) rfl ?_
              refine TE_put (i := 1) rfl Tryd.sizeOf30 trivial rfl rfl rfl rfl rfl rfl (.inl hb2) ?_
              refine TE_q rfl rfl (RD.assign rfl) rfl ?_
              refine TE_nil0 ?_
              refine pn_ret ?_
              exact pn_doneF rfl ⟨recV zeroR, _, b2, 0, rfl, rfl, load_agg (i := 1) Tryd.isAgg30 Tryd.sizeOf30 rfl (by first | (rw [size_putL]; exact Nat.le_of_ble_eq_true rfl) | exact Nat.le_of_ble_eq_true rfl) (put_agg rfl rfl rfl rfl), _, _, rfl, rfl, rfl⟩ (.inr ⟨120, _, r4, by rw [rd_F hd1 hd2 hd3 hd4 hc4]; exact fine_F (err1 hc6), by decide, rfl, rfl, hq4, by omega⟩) (fun w h => h.sub (.cons _ (.cons _ (List.Sublist.refl _)))) in_rsrc
            · refine pn_skip ?_
              refine pn_seq ?_
              refine pn_plain [] rfl ?_
              refine TE_l rfl rfl trivial rfl (RD.loadA (v := recV (mkQ d l b (decide (n = 1)))) (i := 0) Tryd.isAgg30 Tryd.sizeOf30 rfl rfl (Nat.le_of_ble_eq_true rfl) (rec_all _)) rfl ?_
              refine TE_put (i := 1) rfl Tryd.sizeOf30 trivial rfl rfl rfl rfl rfl rfl (.inl hb2) ?_
              refine TE_q rfl rfl (RD.assign rfl) rfl ?_
              refine TE_nil0 ?_
              refine pn_ret ?_
              exact pn_doneF rfl ⟨recV (mkQ d l b (decide (n = 1))), _, b2, 0, rfl, rfl, load_agg (i := 1) Tryd.isAgg30 Tryd.sizeOf30 rfl (by first | (rw [size_putL]; exact Nat.le_of_ble_eq_true rfl) | exact Nat.le_of_ble_eq_true rfl) (put_agg rfl rfl rfl rfl), _, _, rfl, rfl, rfl⟩ (.inl ⟨_, r4, _, by rw [rd_F hd1 hd2 hd3 hd4 hc4]; exact fine_T (err0 hc6), rfl, rfl, hq4, by omega⟩) (fun w h => h.sub (.cons _ (.cons _ (List.Sublist.refl _)))) in_rsrc
        · refine TE_q rfl rfl (RD.move rfl) rfl ?_
          refine TE_q rfl rfl (RD.extract rfl rfl) rfl ?_
          refine TE_q rfl rfl (RD.extract rfl rfl) rfl ?_
          refine TE_q rfl rfl (RD.assign rfl) rfl ?_
          refine TE_q rfl rfl (RD.assign rfl) rfl ?_
          refine TE_nil0 ?_
          refine pn_seq ?_
          refine pn_seq ?_
          refine pn_plain [] rfl ?_
          refine TE_q rfl rfl (RD.move rfl) rfl ?_
          refine TE_q rfl rfl (RD.as (v := .bool true) (RD.neq rfl rfl) (by rw [decide_eq_false he]; rfl)) rfl ?_
          refine TE_nil0 ?_
          refine pn_condT rfl ?_
          refine pn_seq ?_
          skip
          refine pn_plain [] rfl ?_
          refine TE_q rfl rfl (RD.build rfl bd_rec0) rfl ?_
          refine TE_q rfl rfl (RD.move rfl) rfl ?_
          refine TE_put (i := 3) rfl Tryd.sizeOf30 trivial rfl rfl rfl rfl rfl rfl (.inl hb2) ?_
          refine TE_q rfl rfl (RD.assign rfl) rfl ?_
          refine TE_nil0 ?_
          refine pn_ret ?_
          exact pn_doneF rfl ⟨recV zeroR, _, b2, 0, rfl, rfl, load_agg (i := 3) Tryd.isAgg30 Tryd.sizeOf30 rfl (by first | (rw [size_putL]; exact Nat.le_of_ble_eq_true rfl) | exact Nat.le_of_ble_eq_true rfl) (put_agg rfl rfl rfl rfl), _, _, rfl, rfl, rfl⟩ (.inr ⟨e, _, _, by simp only [recD, hd1, hd2, hd3, hd4], he, rfl, rfl, hq4, by omega⟩) (fun w h => h.sub (.cons _ (.cons _ (.cons _ (.cons _ (List.sublist_append_right H2 _)))))) in_rsrc
      · refine TE_q rfl rfl (RD.move rfl) rfl ?_
        refine TE_q rfl rfl (RD.extract rfl rfl) rfl ?_
        refine TE_q rfl rfl (RD.extract rfl rfl) rfl ?_
        refine TE_q rfl rfl (RD.assign rfl) rfl ?_
        refine TE_q rfl rfl (RD.assign rfl) rfl ?_
        refine TE_nil0 ?_
        refine pn_seq ?_
        refine pn_seq ?_
        refine pn_plain [] rfl ?_
        refine TE_q rfl rfl (RD.move rfl) rfl ?_
        refine TE_q rfl rfl (RD.as (v := .bool true) (RD.neq rfl rfl) (by rw [decide_eq_false he]; rfl)) rfl ?_
        refine TE_nil0 ?_
        refine pn_condT rfl ?_
        refine pn_seq ?_
        refine pn_plain [] rfl ?_
        refine TE_q rfl rfl (RD.build rfl bd_rec0) rfl ?_
        refine TE_q rfl rfl (RD.move rfl) rfl ?_
        refine TE_put (i := 3) rfl Tryd.sizeOf30 trivial rfl rfl rfl rfl rfl rfl (.inl hb2) ?_
        refine TE_q rfl rfl (RD.assign rfl) rfl ?_
        refine TE_nil0 ?_
        refine pn_ret ?_
        exact pn_doneF rfl ⟨recV zeroR, _, b2, 0, rfl, rfl, load_agg (i := 3) Tryd.isAgg30 Tryd.sizeOf30 rfl (by first | (rw [size_putL]; exact Nat.le_of_ble_eq_true rfl) | exact Nat.le_of_ble_eq_true rfl) (put_agg rfl rfl rfl rfl), _, _, rfl, rfl, rfl⟩ (.inr ⟨e, _, _, by simp only [recD, hd1, hd2, hd3], he, rfl, rfl, hq3, by omega⟩) (fun w h => h.sub (.cons _ (.cons _ (.cons _ (.cons _ (List.Sublist.refl _)))))) in_rsrc
    · refine TE_q rfl rfl (RD.move rfl) rfl ?_
      refine TE_q rfl rfl (RD.extract rfl rfl) rfl ?_
      refine TE_q rfl rfl (RD.extract rfl rfl) rfl ?_
      refine TE_alloc rfl Tryd.zeroValue26 trivial rfl fun b7 hb7 => ?_
      refine TE_put (i := 0) rfl Tryd.sizeOf26 trivial rfl rfl rfl rfl rfl rfl (.inl hb7) ?_
      refine TE_q rfl rfl (RD.assign rfl) rfl ?_
      refine TE_nil0 ?_
      refine pn_seq ?_
      refine pn_seq ?_
      refine pn_plain [] rfl ?_
      refine TE_q rfl rfl (RD.move rfl) rfl ?_
      refine TE_q rfl rfl (RD.as (v := .bool true) (RD.neq rfl rfl) (by rw [decide_eq_false he]; rfl)) rfl ?_
      refine TE_nil0 ?_
      refine pn_condT rfl ?_
      refine pn_seq ?_
      refine pn_plain [] rfl ?_
      refine TE_q rfl rfl (RD.build rfl bd_rec0) rfl ?_
      refine TE_q rfl rfl (RD.move rfl) rfl ?_
      refine TE_put (i := 3) rfl Tryd.sizeOf30 trivial rfl rfl rfl rfl rfl rfl (.inl hb2) ?_
      refine TE_q rfl rfl (RD.assign rfl) rfl ?_
      refine TE_nil0 ?_
      refine pn_ret ?_
      exact pn_doneF rfl ⟨recV zeroR, _, b2, 0, rfl, rfl, load_agg (i := 3) Tryd.isAgg30 Tryd.sizeOf30 rfl (by first | (rw [size_putL]; exact Nat.le_of_ble_eq_true rfl) | exact Nat.le_of_ble_eq_true rfl) (put_agg rfl rfl rfl rfl), _, _, rfl, rfl, rfl⟩ (.inr ⟨e, _, _, by simp only [recD, hd1, hd2], he, rfl, rfl, hq2, by omega⟩) (fun w h => h.sub (.cons _ (.cons _ (.cons _ (.cons _ (List.Sublist.refl _)))))) in_rsrc
  · refine TE_q rfl rfl (RD.move rfl) rfl ?_
    refine TE_q rfl rfl (RD.extract rfl rfl) rfl ?_
    refine TE_q rfl rfl (RD.extract rfl rfl) rfl ?_
    refine TE_alloc rfl Tryd.zeroValue23 trivial rfl fun b5 hb5 => ?_
    refine TE_put (i := 0) rfl Tryd.sizeOf23 trivial rfl rfl rfl rfl rfl rfl (.inl hb5) ?_
    refine TE_q rfl rfl (RD.assign rfl) rfl ?_
    refine TE_nil0 ?_
    refine pn_seq ?_
    refine pn_seq ?_
    refine pn_plain [] rfl ?_
    refine TE_q rfl rfl (RD.move rfl) rfl ?_
    refine TE_q rfl rfl (RD.as (v := .bool true) (RD.neq rfl rfl) (by rw [decide_eq_false he]; rfl)) rfl ?_
    refine TE_nil0 ?_
    refine pn_condT rfl ?_
    refine pn_seq ?_
    refine pn_plain [] rfl ?_
    refine TE_q rfl rfl (RD.build rfl bd_rec0) rfl ?_
    refine TE_q rfl rfl (RD.move rfl) rfl ?_
    refine TE_put (i := 2) rfl Tryd.sizeOf30 trivial rfl rfl rfl rfl rfl rfl (.inl hb2) ?_
    refine TE_q rfl rfl (RD.assign rfl) rfl ?_
    refine TE_nil0 ?_
    refine pn_ret ?_
    exact pn_doneF rfl ⟨recV zeroR, _, b2, 0, rfl, rfl, load_agg (i := 2) Tryd.isAgg30 Tryd.sizeOf30 rfl (by first | (rw [size_putL]; exact Nat.le_of_ble_eq_true rfl) | exact Nat.le_of_ble_eq_true rfl) (put_agg rfl rfl rfl rfl), _, _, rfl, rfl, rfl⟩ (.inr ⟨e, _, _, by simp only [recD, hd1], he, rfl, rfl, hq1, hl1⟩) (fun w h => h.sub (.cons _ (.cons _ (.cons _ (List.Sublist.refl _))))) in_rsrc

end Go.Proofs.YthagkkmbbncclaaDoor
