import Derived.Test.YtloljpefdecmhaaGau
namespace Go.Proofs.Ytloljpefdecmhaa
open Go Go.Mv
set_option maxRecDepth 8000
theorem alive_a (x : List UInt8) (h : x = [1, 2, 97, 98]) : (Value.bool (decide ((⟨x.toArray⟩ : ByteArray) = ⟨#[1, 2, 97, 98]⟩))) = .bool true := by subst h; rfl
theorem alive_b (x : List UInt8) (h : x = [2, 0]) : (Value.bool (decide ((⟨x.toArray⟩ : ByteArray) = ⟨#[2, 0]⟩))) = .bool true := by subst h; rfl
theorem absB {b c : Bool} (h1 : b = c) (h2 : b = !c) : False := by subst h1; cases b <;> cases h2
theorem absO {α : Type} {o : Option α} {x : α} (h1 : o = none) (h2 : o = some x) : False := by rw [h1] at h2; cases h2

theorem c_alive7  (w : World) (hH : Hp [] w) : Calls Try.prog 13 #[] w (Ret w [] fun v H1 => v = .bool true ∧ H1 = []) := by
  refine fn_enter (args := []) Try.func13 rfl Try.ntmps13 rfl hH ?_
  refine pn_seq ?_
  refine pn_plain [] rfl ?_
  refine TE_q rfl rfl (RD.assign rfl) rfl ?_
  refine TE_nil0 ?_
  refine pn_seq ?_
  refine pn_plain [] rfl ?_
  refine TE_buildSlice (cells := #[.int .u8 97, .int .u8 98]) rfl Try.runUnderlying22 Try.sizeOf5 Try.zeroValue5 rfl rfl rfl (by kernel_rfl) trivial rfl fun b8 hb8 => ?_
  refine TE_convSl 0 [(b8, .cells #[.int .u8 97, .int .u8 98] 5 (2, 3))] rfl rfl trivial rfl Try.underlying22 Try.underlying22 rfl Try.underlying5 rfl rfl (.inl hb8) rfl ?_
  refine TE_q rfl rfl (RD.build (v := objV (⟨1, [97, 98], [], (fun _ => 0), [], (⟨0, (fun _ => 0)⟩ : Lnk), ⟨#[]⟩⟩ : Ob) (.slice (some ⟨b8, 0, none⟩) 2 2) (.slice none 0 0) (.slice none 0 0)) rfl (fun w => by obtain ⟨a0, c0, e0⟩ := ((Rdb.of_x (Rdx.blk (enc := byteC) (H := [(b8, .cells #[.int .u8 97, .int .u8 98] 5 (2, 3))]) (xs := [97, 98]) (n := 2) (i := 0) (tl := []) (c := 2) byteC_len rfl rfl (Nat.le_refl _)))).shape; rw [e0]; kernel_rfl)) rfl ?_
  refine TE_callG _ [(b8, .cells #[.int .u8 97, .int .u8 98] 5 (2, 3))] rfl rfl trivial Try.call25 rfl rfl rfl (fun w hw => c_obEncode (⟨1, [97, 98], [], (fun _ => 0), [], (⟨0, (fun _ => 0)⟩ : Lnk), ⟨#[]⟩⟩ : Ob) (.slice (some ⟨b8, 0, none⟩) 2 2) (.slice none 0 0) (.slice none 0 0) [(b8, .cells #[.int .u8 97, .int .u8 98] 5 (2, 3))] w ((Rdb.of_x (Rdx.blk (enc := byteC) (H := [(b8, .cells #[.int .u8 97, .int .u8 98] 5 (2, 3))]) (xs := [97, 98]) (n := 2) (i := 0) (tl := []) (c := 2) byteC_len rfl rfl (Nat.le_refl _))).mono (fun _ hw => hw.sp (fun a => by simp -failIfUnchanged <;> omega))) Rdx.nil Rdx.nil (show ObOk _ from ⟨by decide, by decide, by decide, by decide, (by intro e h; cases h), zid_ok, zid_ok, (by intro e h; cases h), (by intro e h; cases h)⟩) (hw.sp (fun a => by simp -failIfUnchanged <;> omega))) (fun a => by simp -failIfUnchanged <;> omega) ?_
  rintro v7 H8 (⟨hok1, st2, hbo3, rfl, rfl⟩ | ⟨hok6, rfl, rfl⟩) hX9
  · have hRD5 : Rdx 1 (byteC) (bldMx 5 (byteC) (obB (⟨1, [97, 98], [], (fun _ => 0), [], (⟨0, (fun _ => 0)⟩ : Lnk), ⟨#[]⟩⟩ : Ob)) st2) (bldVx (obB (⟨1, [97, 98], [], (fun _ => 0), [], (⟨0, (fun _ => 0)⟩ : Lnk), ⟨#[]⟩⟩ : Ob)) st2) (obB (⟨1, [97, 98], [], (fun _ => 0), [], (⟨0, (fun _ => 0)⟩ : Lnk), ⟨#[]⟩⟩ : Ob)) := hbo3.rdx (u := 5) byteC_len; refine TE_sp ((b8, .cells #[.int .u8 97, .int .u8 98] 5 (2, 3)) :: (bldMx 5 (byteC) (obB (⟨1, [97, 98], [], (fun _ => 0), [], (⟨0, (fun _ => 0)⟩ : Lnk), ⟨#[]⟩⟩ : Ob)) st2)) (fun a => by simp -failIfUnchanged <;> omega) ?_
    refine TE_q rfl rfl (RD.move rfl) rfl ?_
    refine TE_q rfl rfl (RD.extract rfl rfl) rfl ?_
    refine TE_q rfl rfl (RD.extract rfl rfl) rfl ?_
    refine TE_q rfl rfl (RD.assign rfl) rfl ?_
    refine TE_q rfl rfl (RD.assign rfl) rfl ?_
    refine TE_nil0 ?_
    refine pn_seq ?_
    refine pn_plainG [] (bldMx 5 (byteC) (obB (⟨1, [97, 98], [], (fun _ => 0), [], (⟨0, (fun _ => 0)⟩ : Lnk), ⟨#[]⟩⟩ : Ob)) st2) rfl (fun a => by simp -failIfUnchanged <;> omega) ?_
    refine TE_q rfl rfl (RD.build (v := objV (⟨2, [], [], (fun _ => 0), [], (⟨0, (fun _ => 0)⟩ : Lnk), ⟨#[]⟩⟩ : Ob) (.slice none 0 0) (.slice none 0 0) (.slice none 0 0)) rfl (fun w => by kernel_rfl)) rfl ?_
    refine TE_callG _ [] rfl rfl trivial Try.call25 rfl rfl rfl (fun w hw => c_obEncode (⟨2, [], [], (fun _ => 0), [], (⟨0, (fun _ => 0)⟩ : Lnk), ⟨#[]⟩⟩ : Ob) (.slice none 0 0) (.slice none 0 0) (.slice none 0 0) [] w (.inl ⟨rfl, rfl⟩) Rdx.nil Rdx.nil (show ObOk _ from ⟨by decide, by decide, by decide, by decide, (by intro e h; cases h), zid_ok, zid_ok, (by intro e h; cases h), (by intro e h; cases h)⟩) (hw.sp (fun a => by simp -failIfUnchanged <;> omega))) (fun a => by simp -failIfUnchanged <;> omega) ?_
    rintro v16 H17 (⟨hok10, st11, hbo12, rfl, rfl⟩ | ⟨hok15, rfl, rfl⟩) hX18
    · have hRD14 : Rdx 1 (byteC) (bldMx 5 (byteC) (obB (⟨2, [], [], (fun _ => 0), [], (⟨0, (fun _ => 0)⟩ : Lnk), ⟨#[]⟩⟩ : Ob)) st11) (bldVx (obB (⟨2, [], [], (fun _ => 0), [], (⟨0, (fun _ => 0)⟩ : Lnk), ⟨#[]⟩⟩ : Ob)) st11) (obB (⟨2, [], [], (fun _ => 0), [], (⟨0, (fun _ => 0)⟩ : Lnk), ⟨#[]⟩⟩ : Ob)) := hbo12.rdx (u := 5) byteC_len; refine TE_sp ((bldMx 5 (byteC) (obB (⟨2, [], [], (fun _ => 0), [], (⟨0, (fun _ => 0)⟩ : Lnk), ⟨#[]⟩⟩ : Ob)) st11) ++ (bldMx 5 (byteC) (obB (⟨1, [97, 98], [], (fun _ => 0), [], (⟨0, (fun _ => 0)⟩ : Lnk), ⟨#[]⟩⟩ : Ob)) st2)) (fun a => by simp -failIfUnchanged <;> omega) ?_
      refine TE_q rfl rfl (RD.move rfl) rfl ?_
      refine TE_q rfl rfl (RD.extract rfl rfl) rfl ?_
      refine TE_q rfl rfl (RD.extract rfl rfl) rfl ?_
      refine TE_q rfl rfl (RD.assign rfl) rfl ?_
      refine TE_q rfl rfl (RD.assign rfl) rfl ?_
      refine TE_nil0 ?_
      refine pn_seq ?_
      refine pn_plain [] rfl ?_
      refine TE_buildSlice (cells := #[.int .u8 2, .int .u8 1]) rfl Try.runUnderlying22 Try.sizeOf5 Try.zeroValue5 rfl rfl rfl (by kernel_rfl) trivial rfl fun b20 hb20 => ?_
      refine TE_callG _ [(b20, .cells #[.int .u8 2, .int .u8 1] 5 (0, 0))] rfl rfl trivial Try.call26 rfl rfl rfl (fun w hw => c_parse (.slice (some ⟨b20, 0, none⟩) 2 2) [2, 1] [(b20, .cells #[.int .u8 2, .int .u8 1] 5 (0, 0))] w ((Rdb.of_x (Rdx.blk (enc := byteC) (H := [(b20, .cells #[.int .u8 2, .int .u8 1] 5 (0, 0))]) (xs := [2, 1]) (n := 2) (i := 0) (tl := []) (c := 2) byteC_len rfl rfl (Nat.le_refl _))).mono (fun _ hw => hw.sp (fun a => by simp -failIfUnchanged <;> omega))) (by first | assumption | omega | (simp; done) | (simp; omega)) (hw.sp (fun a => by simp -failIfUnchanged <;> omega))) (fun a => by simp -failIfUnchanged <;> omega) ?_
      rintro v32 H33 (⟨x19, st23, st26, st29, hpm20, hox21, hbo24, hbo27, hbo30, rfl, rfl⟩ | ⟨hpm20, rfl, rfl⟩) hX34
      · exact (absO (show parseM [2, 1] = none from by kernel_rfl) hpm20).elim
      · refine TE_q rfl rfl (RD.move rfl) rfl ?_
        refine TE_q rfl rfl (RD.extract rfl rfl) rfl ?_
        refine TE_q rfl rfl (RD.extract rfl rfl) rfl ?_
        refine TE_allocC (objV (⟨0, [], [], (fun _ => 0), [], (⟨0, (fun _ => 0)⟩ : Lnk), ⟨#[]⟩⟩ : Ob) (.slice none 0 0) (.slice none 0 0) (.slice none 0 0)).cells rfl Try.zeroValue30 rfl trivial rfl fun b5 hb5 => ?_
        refine TE_putCW 0 (objV (⟨0, [], [], (fun _ => 0), [], (⟨0, (fun _ => 0)⟩ : Lnk), ⟨#[]⟩⟩ : Ob) (.slice none 0 0) (.slice none 0 0) (.slice none 0 0)).cells (objV (⟨0, [], [], (fun _ => 0), [], (⟨0, (fun _ => 0)⟩ : Lnk), ⟨#[]⟩⟩ : Ob) (.slice none 0 0) (.slice none 0 0) (.slice none 0 0)).cells ((b5, .cells (objV (⟨0, [], [], (fun _ => 0), [], (⟨0, (fun _ => 0)⟩ : Lnk), ⟨#[]⟩⟩ : Ob) (.slice none 0 0) (.slice none 0 0) (.slice none 0 0)).cells 30 (0, 0)) :: (b20, .cells #[.int .u8 2, .int .u8 1] 5 (0, 0)) :: ((bldMx 5 (byteC) (obB (⟨2, [], [], (fun _ => 0), [], (⟨0, (fun _ => 0)⟩ : Lnk), ⟨#[]⟩⟩ : Ob)) st11) ++ (bldMx 5 (byteC) (obB (⟨1, [97, 98], [], (fun _ => 0), [], (⟨0, (fun _ => 0)⟩ : Lnk), ⟨#[]⟩⟩ : Ob)) st2))) rfl Try.sizeOf30 trivial rfl rfl rfl (objV_one _ _ _ _ rfl rfl rfl) rfl rfl rfl rfl (.inl hb5) ?_
        refine TE_q rfl rfl (RD.assign rfl) rfl ?_
        refine TE_nil0 ?_
        refine pn_seq ?_
        refine pn_plainG [] ((bldMx 5 (byteC) (obB (⟨2, [], [], (fun _ => 0), [], (⟨0, (fun _ => 0)⟩ : Lnk), ⟨#[]⟩⟩ : Ob)) st11) ++ (bldMx 5 (byteC) (obB (⟨1, [97, 98], [], (fun _ => 0), [], (⟨0, (fun _ => 0)⟩ : Lnk), ⟨#[]⟩⟩ : Ob)) st2)) rfl (fun a => by simp -failIfUnchanged <;> omega) ?_
        refine TE_q rfl rfl (RD.move rfl) rfl ?_
        refine TE_q rfl rfl (RD.as (v := .bool true) (RD.eql rfl rfl) rfl) rfl ?_
        refine TE_q rfl rfl (RD.move rfl) rfl ?_
        refine TE_gq rfl rfl rfl rfl (RD.move rfl) rfl ?_
        refine TE_l rfl rfl ⟨_, rfl, rfl⟩ rfl (RD.str_of_bytes Try.underlying22 Try.underlying9 Try.underlying5 rfl (BytesIn.mono ((Rdb.of_x hRD5)).bytes (fun _ hw => hw.sp (fun a => by simp -failIfUnchanged <;> omega)))) rfl ?_
        refine TE_gq rfl rfl rfl rfl (RD.as (v := .bool true) (RD.eql_string rfl rfl) (alive_a (obB (⟨1, [97, 98], [], (fun _ => 0), [], (⟨0, (fun _ => 0)⟩ : Lnk), ⟨#[]⟩⟩ : Ob)) (by simp [obB, wB, lebL, entsB]; try decide))) rfl ?_
        refine TE_q rfl rfl (RD.pickT rfl rfl) rfl ?_
        refine TE_q rfl rfl (RD.move rfl) rfl ?_
        refine TE_gq rfl rfl rfl rfl (RD.move rfl) rfl ?_
        refine TE_gq rfl rfl rfl rfl (RD.as (v := .bool true) (RD.eql rfl rfl) rfl) rfl ?_
        refine TE_q rfl rfl (RD.pickT rfl rfl) rfl ?_
        refine TE_q rfl rfl (RD.move rfl) rfl ?_
        refine TE_gq rfl rfl rfl rfl (RD.move rfl) rfl ?_
        refine TE_l rfl rfl ⟨_, rfl, rfl⟩ rfl (RD.str_of_bytes Try.underlying22 Try.underlying9 Try.underlying5 rfl (BytesIn.mono ((Rdb.of_x hRD14)).bytes (fun _ hw => hw.sp (fun a => by simp -failIfUnchanged <;> omega)))) rfl ?_
        refine TE_gq rfl rfl rfl rfl (RD.as (v := .bool true) (RD.eql_string rfl rfl) (alive_b (obB (⟨2, [], [], (fun _ => 0), [], (⟨0, (fun _ => 0)⟩ : Lnk), ⟨#[]⟩⟩ : Ob)) (by simp [obB, wB, lebL, entsB]; try decide))) rfl ?_
        refine TE_q rfl rfl (RD.pickT rfl rfl) rfl ?_
        refine TE_q rfl rfl (RD.move rfl) rfl ?_
        refine TE_gq rfl rfl rfl rfl (RD.move rfl) rfl ?_
        refine TE_gq rfl rfl rfl rfl (RD.as (v := .bool true) (RD.eql rfl rfl) rfl) rfl ?_
        refine TE_q rfl rfl (RD.pickT rfl rfl) rfl ?_
        refine TE_q rfl rfl (RD.assign rfl) rfl ?_
        refine TE_nil0 ?_
        refine pn_ret ?_
        exact pn_doneS [] rfl rfl ⟨rfl, rfl⟩ (fun _ => Nat.zero_le _) (fun _ he => nomatch he)
    · exact (absB (show obOkB (⟨2, [], [], (fun _ => 0), [], (⟨0, (fun _ => 0)⟩ : Lnk), ⟨#[]⟩⟩ : Ob) = true from by kernel_rfl) hok15).elim
  · exact (absB (show obOkB (⟨1, [97, 98], [], (fun _ => 0), [], (⟨0, (fun _ => 0)⟩ : Lnk), ⟨#[]⟩⟩ : Ob) = true from by kernel_rfl) hok6).elim

end Go.Proofs.Ytloljpefdecmhaa

namespace Go.Proofs.Ytloljpefdecmhaa
open Go Go.Mv
set_option maxRecDepth 8000
def cntK (k : Int) (l : List Lnk) : Nat := (l.filter fun x => decide (x.k = k)).length
theorem cnt_le (k : Int) (l : List Lnk) : cntK k l ≤ l.length := List.length_filter_le _ _
theorem kcnt_next {k : Int} {l : List Lnk} {i : Nat} (hi : i < l.length) : cntK k (l.take (i + 1)) = cntK k (l.take i) + if (gt l i).k = k then 1 else 0 := by
  rw [take_succ_of (gt_some hi), cntK, List.filter_append, List.length_append]
  congr 1
  by_cases h : (gt l i).k = k <;> simp [h]
theorem cnt_parsL (k : Int) (l : List (Nat → Int)) : cntK k (parsL l) = if k = 3 then l.length else 0 := by
  induction l with
  | nil => simp [cntK]
  | cons p l ih =>
    have e : cntK k (parsL (p :: l)) = (if k = 3 then 1 else 0) + cntK k (parsL l) := by
      show (List.filter (fun x : Lnk => decide (x.k = k)) (⟨3, p⟩ :: parsL l)).length = _
      rw [List.filter_cons]
      by_cases h : k = 3
      · subst h; simp [cntK]; omega
      · simp [cntK, h, Ne.symm h]
    rw [e, ih]
    split <;> simp; omega
theorem tree_kinds {l : List Ent} (h : treeB l = true) {e : Ent} (he : e ∈ l) : e.k = 1 ∨ e.k = 2 := by
  simp only [treeB, Bool.and_eq_true, List.all_eq_true, List.mem_range] at h
  obtain ⟨i, hi, rfl⟩ := List.getElem_of_mem he
  have h1 := h.2 i hi
  have e1 := gt_some hi
  rw [List.getElem?_eq_getElem hi] at e1
  rw [entAt, ← Option.some.inj e1] at h1
  simp only [Bool.and_eq_true, Bool.or_eq_true, decide_eq_true_eq] at h1
  exact h1.1.2
theorem kinds2 {x : Ob} (h : obOkB x = true) (hk : x.k = 2) : (linksL x).length = x.ents.length ∧ cntK 3 (linksL x) = 0 := by
  have hl : linksL x = entsL x.ents := by simp [linksL, lnksL, h, hk, entsL]
  rw [hl]
  refine ⟨entsL_len _, ?_⟩
  rw [chk2 hk] at h
  simp only [Bool.and_eq_true] at h
  have ht := h.1
  rw [cntK, List.length_eq_zero_iff, List.filter_eq_nil_iff]
  intro y hy
  obtain ⟨e, he, rfl⟩ := List.mem_map.1 hy
  have := tree_kinds ht he
  simp only [decide_eq_true_eq]
  omega
theorem kinds3 {x : Ob} (h : obOkB x = true) (hk : x.k = 3) : (linksL x).length = x.pars.length + 1 ∧ cntK 2 (linksL x) = 1 ∧ cntK 3 (linksL x) = x.pars.length ∧ gt (linksL x) 0 = ⟨2, x.t⟩ := by
  have hl : linksL x = ⟨2, x.t⟩ :: parsL x.pars := by simp [linksL, lnksL, h, hk, parsL]
  have h2 := cnt_parsL 2 x.pars
  have h3 := cnt_parsL 3 x.pars
  rw [hl]
  refine ⟨by simp, ?_, ?_, rfl⟩
  · simp only [cntK, List.filter_cons] at h2 ⊢; simpa using h2
  · simp only [cntK, List.filter_cons] at h3 ⊢; simpa using h3
theorem kinds4 {x : Ob} (h : obOkB x = true) (hk : x.k = 4) : (linksL x).length = 1 ∧ gt (linksL x) 0 = x.tg := by
  have hl : linksL x = [x.tg] := by simp [linksL, lnksL, h, hk]
  rw [hl]; exact ⟨rfl, rfl⟩
theorem kinds1 {x : Ob} (h2 : ¬ x.k = 2) (h3 : ¬ x.k = 3) (h4 : ¬ x.k = 4) : (linksL x).length = 0 := by
  simp only [linksL, lnksL, h2, h3, h4, if_false]
  repeat' split
  all_goals rfl
theorem kinds0 {x : Ob} (h : obOkB x = false) : (linksL x).length = 0 := by simp [linksL, h]

theorem c_ObjectKinds (x : Ob) (xd : Value) (xe : Value) (xp : Value) (HX : Mem) (w : World) (hbxd : Rdb HX xd x.data) (hbxe : Rdx 34 (entC) HX xe x.ents) (hbxp : Rdx 32 (idC) HX xp x.pars) (hox : ObW x) (hH : Hp HX w) : Calls Try.prog 4 #[objV x xd xe xp] w (Ret w [] fun v H1 => v = .bool true ∧ H1 = []) := by
  refine fn_enter (args := [_]) Try.func4 rfl Try.ntmps4 rfl hH ?_
  refine pn_seq ?_
  refine pn_plain [] rfl ?_
  refine TE_boxC (objV x xd xe xp).cells rfl rfl rfl trivial rfl fun b1 hb1 => ?_
  refine TE_q rfl rfl (RD.assign rfl) rfl ?_
  refine TE_nil0 ?_
  refine pn_seq ?_
  refine pn_plain [] rfl ?_
  refine TE_callG _ [] rfl rfl trivial Try.call13 rfl rfl rfl (fun w hw => c_alive7 w (hw.sp (fun a => by simp -failIfUnchanged <;> omega))) (fun a => by simp -failIfUnchanged <;> omega) ?_
  rintro v1 H2 ⟨rfl, rfl⟩ -
  refine TE_q rfl rfl (RD.assign rfl) rfl ?_
  refine TE_nil0 ?_
  refine pn_seq ?_
  refine pn_seq ?_
  refine pn_plain [] rfl ?_
  refine TE_l rfl rfl trivial rfl (RD.loadA (i := 0) Try.isAgg30 Try.sizeOf30 rfl rfl (Nat.le_of_ble_eq_true rfl) (obj_all _ _ _ _)) rfl ?_
  refine TE_callG _ HX rfl rfl trivial Try.call5 rfl rfl rfl (fun w hw => c_great x xd xe xp HX w (hbxd.mono (fun _ hw => hw.sp (fun a => by simp -failIfUnchanged <;> omega))) (hbxe.mono (fun _ hw => hw.sp (fun a => by simp -failIfUnchanged <;> omega))) (hbxp.mono (fun _ hw => hw.sp (fun a => by simp -failIfUnchanged <;> omega))) hox (hw.sp (fun a => by simp -failIfUnchanged <;> omega))) (fun a => by simp -failIfUnchanged <;> omega) ?_
  rintro v3 H4 ⟨rfl, rfl⟩ -
  refine TE_q rfl rfl (RD.gtr rfl rfl) rfl ?_
  refine TE_q rfl rfl (RD.move rfl) rfl ?_
  refine TE_join (σ := Unit) (fun _ => [(1, .pointer (some ⟨b1, 0, none⟩)), (3, .bool true), (16, .bool (decide (0 < (greatI x))))]) (fun _ => ((b1, .cells (objV x xd xe xp).cells 30 (0, 0)) :: HX)) (fun _ => True) ?_ ?_
  · refine TE_dec (fun hf5 => ?_) (fun hf5 => ?_)
    · refine TE_s rfl rfl rfl rfl rfl ?_
      refine TE_s rfl rfl rfl rfl rfl ?_
      refine TE_q rfl rfl (RD.pickT rfl rfl) rfl ?_
      refine TE_nil0 ?_
      exact pn_give () trivial ⟨rfl, rfl, congrArg (fun b => some (Value.bool b)) (by first | (simp [hf5]; done) | (simp only [decide_eq_true hf5]; rfl)), trivial⟩ (fun _ hw => hw.sp (fun a => by simp -failIfUnchanged <;> omega))
    · refine TE_gq rfl rfl rfl rfl (RD.move rfl) rfl ?_
      refine TE_gq rfl rfl rfl rfl (RD.as (v := .bool false) (RD.not rfl) rfl) rfl ?_
      refine TE_q rfl rfl (RD.pickF rfl rfl) rfl ?_
      refine TE_nil0 ?_
      exact pn_give () trivial ⟨rfl, rfl, congrArg (fun b => some (Value.bool b)) (by first | (simp [hf5]; done) | (simp only [decide_eq_false hf5]; rfl)), trivial⟩ (fun _ hw => hw.sp (fun a => by simp -failIfUnchanged <;> omega))
  rintro _ -
  refine pn_condD rfl (fun hc6 => ?_) (fun hc6 => ?_)
  · refine pn_seq ?_
    refine pn_plainG [] [] rfl (fun a => by simp -failIfUnchanged <;> omega) ?_
    refine TE_q rfl rfl (RD.move rfl) rfl ?_
    refine TE_q rfl rfl (RD.assign rfl) rfl ?_
    refine TE_nil0 ?_
    refine pn_ret ?_
    exact pn_doneS [] rfl rfl ⟨rfl, rfl⟩ (fun _ => Nat.zero_le _) (fun _ he => nomatch he)
  · have hkx := great_ok hox (by assumption)
    have hx1 := hkx.d; have hx2 := hkx.e; have hx3 := hkx.p; have hx4 := hkx.m
    have hxll := lnksL_len x hkx
    refine pn_skip ?_
    refine pn_seq ?_
    refine pn_plain [] rfl ?_
    refine TE_l rfl rfl trivial rfl (RD.loadA (i := 0) Try.isAgg30 Try.sizeOf30 rfl rfl (Nat.le_of_ble_eq_true rfl) (obj_all _ _ _ _)) rfl ?_
    refine TE_callG _ HX rfl rfl trivial Try.call7 rfl rfl rfl (fun w hw => c_obLinks x xd xe xp HX w (hbxd.mono (fun _ hw => hw.sp (fun a => by simp -failIfUnchanged <;> omega))) (hbxe.mono (fun _ hw => hw.sp (fun a => by simp -failIfUnchanged <;> omega))) (hbxp.mono (fun _ hw => hw.sp (fun a => by simp -failIfUnchanged <;> omega))) hkx (hw.sp (fun a => by simp -failIfUnchanged <;> omega))) (fun a => by simp -failIfUnchanged <;> omega) ?_
    rintro v11 H12 ⟨st7, hbo8, rfl, rfl⟩ hX9
    have hRD10 : Rdx 33 (lnkC) (bldMx 28 (lnkC) (linksL x) st7) (bldVx (linksL x) st7) (linksL x) := hbo8.rdx (u := 28) lnkC_len
    refine TE_sp ((b1, .cells (objV x xd xe xp).cells 30 (0, 0)) :: ((bldMx 28 (lnkC) (linksL x) st7) ++ HX)) (fun a => by simp -failIfUnchanged <;> omega) ?_
    refine TE_q rfl rfl (RD.assign rfl) rfl ?_
    refine TE_nil0 ?_
    refine pn_seq ?_
    refine pn_seq ?_
    refine pn_plain [] rfl ?_
    refine TE_l rfl rfl trivial rfl (RD.loadA (i := 0) Try.isAgg30 Try.sizeOf30 rfl rfl (Nat.le_of_ble_eq_true rfl) (obj_all _ _ _ _)) rfl ?_
    refine TE_callG _ HX rfl rfl trivial Try.call14 rfl rfl rfl (fun w hw => c_obCheck x xd xe xp HX w (hbxd.mono (fun _ hw => hw.sp (fun a => by simp -failIfUnchanged <;> omega))) (hbxe.mono (fun _ hw => hw.sp (fun a => by simp -failIfUnchanged <;> omega))) (hbxp.mono (fun _ hw => hw.sp (fun a => by simp -failIfUnchanged <;> omega))) hkx (hw.sp (fun a => by simp -failIfUnchanged <;> omega))) (fun a => by simp -failIfUnchanged <;> omega) ?_
    rintro v13 H14 ⟨rfl, rfl⟩ -
    refine TE_q rfl rfl (RD.neq rfl rfl) rfl ?_
    refine TE_nil0 ?_
    refine pn_condN rfl (fun hc15 => ?_) (fun hc15 => ?_)
    · have hokb := err1 hc15
      refine pn_seq ?_
      refine pn_plainG [3] (bldMx 28 (lnkC) (linksL x) st7) rfl (fun a => by simp -failIfUnchanged <;> omega) ?_
      refine TE_q rfl rfl (RD.move rfl) rfl ?_
      refine TE_q rfl rfl (RD.move rfl) rfl ?_
      refine TE_gq rfl rfl rfl rfl (RD.move rfl) rfl ?_
      refine TE_gq rfl rfl rfl rfl (RD.lenX Try.runUnderlying33 rfl hRD10) rfl ?_
      refine TE_gq rfl rfl rfl rfl (RD.eql rfl rfl) rfl ?_
      refine TE_q rfl rfl (RD.pickT rfl rfl) rfl ?_
      refine TE_q rfl rfl (RD.assign rfl) rfl ?_
      refine TE_nil0 ?_
      refine pn_ret ?_
      exact pn_doneS [] rfl rfl ⟨(congrArg Value.bool (by rw [kinds0 hokb]; rfl)), rfl⟩ (fun _ => Nat.zero_le _) (fun _ he => nomatch he)
    · have hokb := err0 hc15
      refine pn_skip ?_
      refine pn_seq ?_
      refine pn_plain [] rfl ?_
      refine TE_q rfl rfl (RD.assign rfl) rfl ?_
      refine TE_q rfl rfl (RD.assign rfl) rfl ?_
      refine TE_nil0 ?_
      refine pn_seq ?_
      refine pn_seq ?_
      refine pn_plain [1] rfl ?_
      refine TE_q rfl rfl (RD.move rfl) rfl ?_
      refine TE_q rfl rfl (RD.lenX Try.runUnderlying33 rfl hRD10) rfl ?_
      refine TE_q rfl rfl (RD.move rfl) rfl ?_
      refine TE_nil0 ?_
      refine pn_block ?_
      refine pn_loopS (σ := Nat) (fun q => [(1, .pointer (some ⟨b1, 0, none⟩)), (3, .bool true), (4, bldVx (linksL x) st7), (29, bldVx (linksL x) st7), (30, .int .i64 ((linksL x).length : Int)), (5, .int .i64 (cntK 2 ((linksL x).take q) : Int)), (6, .int .i64 (cntK 3 ((linksL x).take q) : Int)), (31, .int .i64 (q : Int))]) (fun q => ((b1, .cells (objV x xd xe xp).cells 30 (0, 0)) :: ((bldMx 28 (lnkC) (linksL x) st7) ++ HX))) (fun q => (q ≤ (linksL x).length)) (fun q => (linksL x).length - q) 0 (by omega) ⟨rfl, rfl, rfl, rfl, rfl, rfl, rfl, rfl, trivial⟩ (fun a => by simp -failIfUnchanged <;> omega) ?_
      rintro i hi
      have hc2 := cnt_le 2 ((linksL x).take i)
      have hc3 := cnt_le 3 ((linksL x).take i)
      rw [List.length_take] at hc2 hc3
      refine pn_seq ?_
      refine pn_plain [] rfl ?_
      refine TE_q rfl rfl (RD.lss rfl rfl) rfl ?_
      refine TE_nil0 ?_
      refine pn_seq ?_
      refine pn_condD rfl (fun hc16 => ?_) (fun hc16 => ?_)
      · refine pn_skip ?_
        refine pn_seq ?_
        refine pn_block ?_
        refine pn_seq ?_
        refine pn_plain [] rfl ?_
        refine TE_q rfl rfl (RD.idxR (i := i) (o := (i * 33 + 0)) Try.runUnderlying33 Try.sizeOf28 rfl hRD10 rfl rfl (by omega) (by rfl)) rfl ?_
        refine TE_l rfl rfl trivial rfl (RD.ldRA (i := i) (j := 0) (vs := (lnkC (gt (linksL x) i))) Try.isAgg28 Try.sizeOf28 rfl hRD10 (gt_some (by omega)) (by rfl) rfl (fun _ _ hu => by rw [Nat.zero_add]; exact hu) (lnkC_agg _) (fun _ hw => hw.sp (fun a => by simp -failIfUnchanged <;> omega))) rfl ?_
        refine TE_allocC (lnkV (⟨0, (fun _ => 0)⟩ : Lnk)).cells rfl Try.zeroValue28 rfl trivial rfl fun b8 hb8 => ?_
        refine TE_putCW 0 (lnkV (⟨0, (fun _ => 0)⟩ : Lnk)).cells (lnkV (gt (linksL x) i)).cells ((b8, .cells (lnkV (gt (linksL x) i)).cells 28 (0, 0)) :: (b1, .cells (objV x xd xe xp).cells 30 (0, 0)) :: ((bldMx 28 (lnkC) (linksL x) st7) ++ HX)) rfl Try.sizeOf28 trivial rfl rfl rfl rfl rfl rfl rfl rfl (.inl hb8) ?_
        refine TE_nil0 ?_
        refine pn_seq ?_
        refine pn_plain [] rfl ?_
        refine TE_q rfl rfl (RD.fieldAddr (o := 0) Try.runUnderlying28 rfl rfl Try.sizeOf3 rfl) rfl ?_
        refine TE_l rfl rfl trivial rfl (RD.load (i := 0) (v := .int .i64 ((gt (linksL x) i).k)) Try.isAgg3 rfl rfl rfl) rfl ?_
        refine TE_nil0 ?_
        refine pn_block ?_
        refine pn_seq ?_
        refine pn_plainG [] ((b1, .cells (objV x xd xe xp).cells 30 (0, 0)) :: ((bldMx 28 (lnkC) (linksL x) st7) ++ HX)) rfl (fun a => by simp -failIfUnchanged <;> omega) ?_
        refine TE_q rfl rfl (RD.eql rfl rfl) rfl ?_
        refine TE_q rfl rfl (RD.assign rfl) rfl ?_
        refine TE_nil0 ?_
        refine pn_condD rfl (fun hc17 => ?_) (fun hc17 => ?_)
        · refine pn_plain [] rfl ?_
          refine TE_q rfl rfl (RD.move rfl) rfl ?_
          refine TE_q rfl rfl (RD.addI rfl rfl (by omega) (by omega)) rfl ?_
          refine TE_q rfl rfl (RD.assign rfl) rfl ?_
          refine TE_nil0 ?_
          refine pn_plain [] rfl ?_
          refine TE_q rfl rfl (RD.addI rfl rfl (by omega) (by omega)) rfl ?_
          refine TE_q rfl rfl (RD.move rfl) rfl ?_
          refine TE_nil0 ?_
          have he18 : ((cntK 2 ((linksL x).take i) : Int) + 1) = (cntK 2 ((linksL x).take (i + 1)) : Int) := (by have hq := kcnt_next (k := 2) (l := linksL x) (i := i) (by omega); rw [hq]; split <;> omega)
          have he19 : (cntK 3 ((linksL x).take i) : Int) = (cntK 3 ((linksL x).take (i + 1)) : Int) := (by have hq := kcnt_next (k := 3) (l := linksL x) (i := i) (by omega); rw [hq]; split <;> omega)
          exact pn_againS (i + 1) (by omega) (by omega) ⟨rfl, rfl, rfl, rfl, rfl, (congrArg (fun z => some (Value.int .i64 z)) he18), (congrArg (fun z => some (Value.int .i64 z)) he19), rfl, trivial⟩ (fun a => by simp -failIfUnchanged <;> omega)
        · refine pn_seq ?_
          refine pn_plain [] rfl ?_
          refine TE_q rfl rfl (RD.eql rfl rfl) rfl ?_
          refine TE_q rfl rfl (RD.assign rfl) rfl ?_
          refine TE_nil0 ?_
          refine pn_condD rfl (fun hc20 => ?_) (fun hc20 => ?_)
          · refine pn_plain [] rfl ?_
            refine TE_q rfl rfl (RD.move rfl) rfl ?_
            refine TE_q rfl rfl (RD.addI rfl rfl (by omega) (by omega)) rfl ?_
            refine TE_q rfl rfl (RD.assign rfl) rfl ?_
            refine TE_nil0 ?_
            refine pn_plain [] rfl ?_
            refine TE_q rfl rfl (RD.addI rfl rfl (by omega) (by omega)) rfl ?_
            refine TE_q rfl rfl (RD.move rfl) rfl ?_
            refine TE_nil0 ?_
            have he21 : (cntK 2 ((linksL x).take i) : Int) = (cntK 2 ((linksL x).take (i + 1)) : Int) := (by have hq := kcnt_next (k := 2) (l := linksL x) (i := i) (by omega); rw [hq]; split <;> omega)
            have he22 : ((cntK 3 ((linksL x).take i) : Int) + 1) = (cntK 3 ((linksL x).take (i + 1)) : Int) := (by have hq := kcnt_next (k := 3) (l := linksL x) (i := i) (by omega); rw [hq]; split <;> omega)
            exact pn_againS (i + 1) (by omega) (by omega) ⟨rfl, rfl, rfl, rfl, rfl, (congrArg (fun z => some (Value.int .i64 z)) he21), (congrArg (fun z => some (Value.int .i64 z)) he22), rfl, trivial⟩ (fun a => by simp -failIfUnchanged <;> omega)
          · refine pn_skip ?_
            refine pn_plain [] rfl ?_
            refine TE_q rfl rfl (RD.addI rfl rfl (by omega) (by omega)) rfl ?_
            refine TE_q rfl rfl (RD.move rfl) rfl ?_
            refine TE_nil0 ?_
            have he23 : (cntK 2 ((linksL x).take i) : Int) = (cntK 2 ((linksL x).take (i + 1)) : Int) := (by have hq := kcnt_next (k := 2) (l := linksL x) (i := i) (by omega); rw [hq]; split <;> omega)
            have he24 : (cntK 3 ((linksL x).take i) : Int) = (cntK 3 ((linksL x).take (i + 1)) : Int) := (by have hq := kcnt_next (k := 3) (l := linksL x) (i := i) (by omega); rw [hq]; split <;> omega)
            exact pn_againS (i + 1) (by omega) (by omega) ⟨rfl, rfl, rfl, rfl, rfl, (congrArg (fun z => some (Value.int .i64 z)) he23), (congrArg (fun z => some (Value.int .i64 z)) he24), rfl, trivial⟩ (fun a => by simp -failIfUnchanged <;> omega)
      · refine pn_exit ?_
        refine pn_seq ?_
        refine pn_seq ?_
        refine pn_plain [] rfl ?_
        refine TE_q rfl rfl (RD.fieldAddr (o := 0) Try.runUnderlying30 rfl rfl Try.sizeOf3 rfl) rfl ?_
        refine TE_l rfl rfl trivial rfl (RD.load (i := 0) (v := .int .i64 x.k) Try.isAgg3 rfl rfl rfl) rfl ?_
        refine TE_nil0 ?_
        refine pn_block ?_
        refine pn_seq ?_
        refine pn_plain [] rfl ?_
        refine TE_q rfl rfl (RD.eql rfl rfl) rfl ?_
        refine TE_q rfl rfl (RD.assign rfl) rfl ?_
        refine TE_nil0 ?_
        refine pn_condD rfl (fun hc25 => ?_) (fun hc25 => ?_)
        · refine pn_seq ?_
          refine pn_plain [3, 6] rfl ?_
          refine TE_q rfl rfl (RD.move rfl) rfl ?_
          refine TE_q rfl rfl (RD.move rfl) rfl ?_
          refine TE_gq rfl rfl rfl rfl (RD.move rfl) rfl ?_
          refine TE_gq rfl rfl rfl rfl (RD.lenX Try.runUnderlying33 rfl hRD10) rfl ?_
          refine TE_gq rfl rfl rfl rfl (RD.fieldAddr (o := 2) Try.runUnderlying30 rfl rfl Try.sizeOf23 rfl) rfl ?_
          refine TE_l rfl rfl ⟨_, rfl, rfl⟩ rfl (RD.load (i := 0) (v := xe) Try.isAgg23 rfl rfl rfl) rfl ?_
          refine TE_gq rfl rfl rfl rfl (RD.lenX Try.runUnderlying23 rfl hbxe) rfl ?_
          refine TE_gq rfl rfl rfl rfl (RD.eql rfl rfl) rfl ?_
          refine TE_q rfl rfl (RD.pickT rfl rfl) rfl ?_
          refine TE_q rfl rfl (RD.move rfl) rfl ?_
          refine TE_join (σ := Unit) (fun _ => [(2, .bool ((decide (((linksL x).length : Int) = (x.ents.length : Int))) && (decide ((cntK 3 ((linksL x).take i) : Int) = 0))))]) (fun _ => ((b1, .cells (objV x xd xe xp).cells 30 (0, 0)) :: ((bldMx 28 (lnkC) (linksL x) st7) ++ HX))) (fun _ => True) ?_ ?_
          · refine TE_dec (fun hf26 => ?_) (fun hf26 => ?_)
            · refine TE_gq rfl rfl rfl rfl (RD.move rfl) rfl ?_
              refine TE_gq rfl rfl rfl rfl (RD.eql rfl rfl) rfl ?_
              refine TE_q rfl rfl (RD.pickT rfl rfl) rfl ?_
              refine TE_q rfl rfl (RD.assign rfl) rfl ?_
              refine TE_nil0 ?_
              exact pn_give () trivial ⟨congrArg (fun b => some (Value.bool b)) (by first | (simp [hf26]; done) | (simp only [decide_eq_true hf26]; rfl)), trivial⟩ (fun _ hw => hw.sp (fun a => by simp -failIfUnchanged <;> omega))
            · refine TE_s rfl rfl rfl rfl rfl ?_
              refine TE_s rfl rfl rfl rfl rfl ?_
              refine TE_q rfl rfl (RD.pickF rfl rfl) rfl ?_
              refine TE_q rfl rfl (RD.assign rfl) rfl ?_
              refine TE_nil0 ?_
              exact pn_give () trivial ⟨congrArg (fun b => some (Value.bool b)) (by first | (simp [hf26]; done) | (simp only [decide_eq_false hf26]; rfl)), trivial⟩ (fun _ hw => hw.sp (fun a => by simp -failIfUnchanged <;> omega))
          rintro _ -
          refine pn_ret ?_
          exact pn_doneS [] rfl rfl ⟨(congrArg Value.bool (by have hq := kinds2 hokb hc25; rw [take_all (l := linksL x) (by omega), hq.1, hq.2]; simp)), rfl⟩ (fun _ => Nat.zero_le _) (fun _ he => nomatch he)
        · refine pn_seq ?_
          refine pn_plain [] rfl ?_
          refine TE_q rfl rfl (RD.eql rfl rfl) rfl ?_
          refine TE_q rfl rfl (RD.assign rfl) rfl ?_
          refine TE_nil0 ?_
          refine pn_condD rfl (fun hc27 => ?_) (fun hc27 => ?_)
          · refine pn_seq ?_
            refine pn_drawG [8, 9, 14, 23, 25] [] ((b1, .cells (objV x xd xe xp).cells 30 (0, 0)) :: ((bldMx 28 (lnkC) (linksL x) st7) ++ HX)) rfl rfl (by kernel_rfl) (fun a => by simp -failIfUnchanged <;> omega) ?_
            refine TE_q rfl rfl (RD.move rfl) rfl ?_
            refine TE_q rfl rfl (RD.move rfl) rfl ?_
            refine TE_gq rfl rfl rfl rfl (RD.move rfl) rfl ?_
            refine TE_gq rfl rfl rfl rfl (RD.eql rfl rfl) rfl ?_
            refine TE_q rfl rfl (RD.pickT rfl rfl) rfl ?_
            refine TE_q rfl rfl (RD.move rfl) rfl ?_
            refine TE_join (σ := Unit) (fun _ => [(2, .bool ((decide ((cntK 2 ((linksL x).take i) : Int) = 1)) && ((decide ((cntK 3 ((linksL x).take i) : Int) = (x.pars.length : Int))) && ((decide (((linksL x).length : Int) = (1 + (cntK 3 ((linksL x).take i) : Int)))) && (sameN 32 ((gt (linksL x) 0).id) x.t)))))]) (fun _ => ((b1, .cells (objV x xd xe xp).cells 30 (0, 0)) :: ((bldMx 28 (lnkC) (linksL x) st7) ++ HX))) (fun _ => True) ?_ ?_
            · refine TE_dec (fun hf28 => ?_) (fun hf28 => ?_)
              · refine TE_gq rfl rfl rfl rfl (RD.move rfl) rfl ?_
                refine TE_gq rfl rfl rfl rfl (RD.fieldAddr (o := 35) Try.runUnderlying30 rfl rfl Try.sizeOf26 rfl) rfl ?_
                refine TE_gq rfl rfl rfl rfl (RD.load (i := 0) (v := xp) Try.isAgg26 rfl rfl rfl) rfl ?_
                refine TE_gq rfl rfl rfl rfl (RD.lenX Try.runUnderlying26 rfl hbxp) rfl ?_
                refine TE_gq rfl rfl rfl rfl (RD.eql rfl rfl) rfl ?_
                refine TE_q rfl rfl (RD.pickT rfl rfl) rfl ?_
                refine TE_q rfl rfl (RD.move rfl) rfl ?_
                refine TE_dec (fun hf29 => ?_) (fun hf29 => ?_)
                · refine TE_gq rfl rfl rfl rfl (RD.move rfl) rfl ?_
                  refine TE_gq rfl rfl rfl rfl (RD.lenX Try.runUnderlying33 rfl hRD10) rfl ?_
                  refine TE_gq rfl rfl rfl rfl (RD.move rfl) rfl ?_
                  refine TE_gq rfl rfl rfl rfl (RD.addI rfl rfl (by omega) (by omega)) rfl ?_
                  refine TE_gq rfl rfl rfl rfl (RD.eql rfl rfl) rfl ?_
                  refine TE_q rfl rfl (RD.pickT rfl rfl) rfl ?_
                  refine TE_q rfl rfl (RD.move rfl) rfl ?_
                  refine TE_dec (fun hf30 => ?_) (fun hf30 => ?_)
                  · refine TE_gq rfl rfl rfl rfl (RD.move rfl) rfl ?_
                    refine TE_gq rfl rfl rfl rfl (RD.idxR (i := 0) (o := (0 * 33 + 0)) Try.runUnderlying33 Try.sizeOf28 rfl hRD10 rfl rfl (by have := kinds3 hokb (by assumption); omega) (by rfl)) rfl ?_
                    refine TE_gq rfl rfl rfl rfl (RD.fldR (i := 0) (o' := (0 * 33 + 1)) Try.runUnderlying28 rfl (by rfl) Try.sizeOf25 rfl hRD10 (by have := kinds3 hokb (by assumption); omega)) rfl ?_
                    refine TE_gq rfl rfl rfl rfl (RD.ldRA (i := 0) (j := 1) (vs := (idC ((gt (linksL x) 0).id))) Try.isAgg25 Try.sizeOf25 rfl hRD10 (gt_some (by have := kinds3 hokb (by assumption); omega)) (by rfl) rfl (fun _ _ hu => lnkC_id hu) (idC_agg _) (fun _ hw => hw.sp (fun a => by simp -failIfUnchanged <;> omega))) rfl ?_
                    refine TE_gq rfl rfl rfl rfl (RD.fieldAddr (o := 3) Try.runUnderlying30 rfl rfl Try.sizeOf25 rfl) rfl ?_
                    refine TE_gq rfl rfl rfl rfl (RD.loadA (i := 0) (v := idV x.t) Try.isAgg25 Try.sizeOf25 rfl rfl (Nat.le_of_ble_eq_true rfl) (obj_t _ _ _ _)) rfl ?_
                    refine TE_gq rfl rfl rfl rfl (RD.eql_agg Try.eqGuardType25 (eq_id ((gt (linksL x) 0).id) x.t) rfl rfl) rfl ?_
                    refine TE_q rfl rfl (RD.pickT rfl rfl) rfl ?_
                    refine TE_q rfl rfl (RD.assign rfl) rfl ?_
                    refine TE_nil ?_
                    exact pn_give () trivial ⟨congrArg (fun b => some (Value.bool b)) (by first | (simp [hf28, hf29, hf30]; done) | (simp only [decide_eq_true hf28, decide_eq_true hf29, decide_eq_true hf30]; rfl)), trivial⟩ (fun _ hw => hw.sp (fun a => by simp -failIfUnchanged <;> omega))
                  · refine TE_s rfl rfl rfl rfl rfl ?_
                    refine TE_s rfl rfl rfl rfl rfl ?_
                    refine TE_s rfl rfl rfl rfl rfl ?_
                    refine TE_s rfl rfl rfl rfl rfl ?_
                    refine TE_s rfl rfl rfl rfl rfl ?_
                    refine TE_s rfl rfl rfl rfl rfl ?_
                    refine TE_s rfl rfl rfl rfl rfl ?_
                    refine TE_q rfl rfl (RD.pickF rfl rfl) rfl ?_
                    refine TE_q rfl rfl (RD.assign rfl) rfl ?_
                    refine TE_nil ?_
                    exact pn_give () trivial ⟨congrArg (fun b => some (Value.bool b)) (by first | (simp [hf28, hf29, hf30]; done) | (simp only [decide_eq_true hf28, decide_eq_true hf29, decide_eq_false hf30]; rfl)), trivial⟩ (fun _ hw => hw.sp (fun a => by simp -failIfUnchanged <;> omega))
                · refine TE_s rfl rfl rfl rfl rfl ?_
                  refine TE_s rfl rfl rfl rfl rfl ?_
                  refine TE_s rfl rfl rfl rfl rfl ?_
                  refine TE_s rfl rfl rfl rfl rfl ?_
                  refine TE_s rfl rfl rfl rfl rfl ?_
                  refine TE_q rfl rfl (RD.pickF rfl rfl) rfl ?_
                  refine TE_q rfl rfl (RD.move rfl) rfl ?_
                  refine TE_s rfl rfl rfl rfl rfl ?_
                  refine TE_s rfl rfl rfl rfl rfl ?_
                  refine TE_s rfl rfl rfl rfl rfl ?_
                  refine TE_s rfl rfl rfl rfl rfl ?_
                  refine TE_s rfl rfl rfl rfl rfl ?_
                  refine TE_s rfl rfl rfl rfl rfl ?_
                  refine TE_s rfl rfl rfl rfl rfl ?_
                  refine TE_q rfl rfl (RD.pickF rfl rfl) rfl ?_
                  refine TE_q rfl rfl (RD.assign rfl) rfl ?_
                  refine TE_nil ?_
                  exact pn_give () trivial ⟨congrArg (fun b => some (Value.bool b)) (by first | (simp [hf28, hf29]; done) | (simp only [decide_eq_true hf28, decide_eq_false hf29]; rfl)), trivial⟩ (fun _ hw => hw.sp (fun a => by simp -failIfUnchanged <;> omega))
              · refine TE_s rfl rfl rfl rfl rfl ?_
                refine TE_s rfl rfl rfl rfl rfl ?_
                refine TE_s rfl rfl rfl rfl rfl ?_
                refine TE_s rfl rfl rfl rfl rfl ?_
                refine TE_s rfl rfl rfl rfl rfl ?_
                refine TE_q rfl rfl (RD.pickF rfl rfl) rfl ?_
                refine TE_q rfl rfl (RD.move rfl) rfl ?_
                refine TE_s rfl rfl rfl rfl rfl ?_
                refine TE_s rfl rfl rfl rfl rfl ?_
                refine TE_s rfl rfl rfl rfl rfl ?_
                refine TE_s rfl rfl rfl rfl rfl ?_
                refine TE_s rfl rfl rfl rfl rfl ?_
                refine TE_q rfl rfl (RD.pickF rfl rfl) rfl ?_
                refine TE_q rfl rfl (RD.move rfl) rfl ?_
                refine TE_s rfl rfl rfl rfl rfl ?_
                refine TE_s rfl rfl rfl rfl rfl ?_
                refine TE_s rfl rfl rfl rfl rfl ?_
                refine TE_s rfl rfl rfl rfl rfl ?_
                refine TE_s rfl rfl rfl rfl rfl ?_
                refine TE_s rfl rfl rfl rfl rfl ?_
                refine TE_s rfl rfl rfl rfl rfl ?_
                refine TE_q rfl rfl (RD.pickF rfl rfl) rfl ?_
                refine TE_q rfl rfl (RD.assign rfl) rfl ?_
                refine TE_nil ?_
                exact pn_give () trivial ⟨congrArg (fun b => some (Value.bool b)) (by first | (simp [hf28]; done) | (simp only [decide_eq_false hf28]; rfl)), trivial⟩ (fun _ hw => hw.sp (fun a => by simp -failIfUnchanged <;> omega))
            rintro _ -
            refine pn_ret ?_
            exact pn_doneS [] rfl rfl ⟨(congrArg Value.bool (by have ⟨q1, q2, q3, q4⟩ := kinds3 hokb hc27; rw [take_all (l := linksL x) (by omega), q1, q2, q3, q4]; simp [sameN_self]; try omega)), rfl⟩ (fun _ => Nat.zero_le _) (fun _ he => nomatch he)
          · refine pn_seq ?_
            refine pn_plain [] rfl ?_
            refine TE_q rfl rfl (RD.eql rfl rfl) rfl ?_
            refine TE_q rfl rfl (RD.assign rfl) rfl ?_
            refine TE_nil0 ?_
            refine pn_condD rfl (fun hc31 => ?_) (fun hc31 => ?_)
            · refine pn_seq ?_
              refine pn_drawG [3, 9, 11] [] ((b1, .cells (objV x xd xe xp).cells 30 (0, 0)) :: ((bldMx 28 (lnkC) (linksL x) st7) ++ HX)) rfl rfl (by kernel_rfl) (fun a => by simp -failIfUnchanged <;> omega) ?_
              refine TE_q rfl rfl (RD.move rfl) rfl ?_
              refine TE_q rfl rfl (RD.move rfl) rfl ?_
              refine TE_gq rfl rfl rfl rfl (RD.move rfl) rfl ?_
              refine TE_gq rfl rfl rfl rfl (RD.lenX Try.runUnderlying33 rfl hRD10) rfl ?_
              refine TE_gq rfl rfl rfl rfl (RD.eql rfl rfl) rfl ?_
              refine TE_q rfl rfl (RD.pickT rfl rfl) rfl ?_
              refine TE_q rfl rfl (RD.move rfl) rfl ?_
              refine TE_join (σ := Unit) (fun _ => [(2, .bool ((decide (((linksL x).length : Int) = 1)) && (same_lnk (gt (linksL x) 0) x.tg)))]) (fun _ => ((b1, .cells (objV x xd xe xp).cells 30 (0, 0)) :: ((bldMx 28 (lnkC) (linksL x) st7) ++ HX))) (fun _ => True) ?_ ?_
              · refine TE_dec (fun hf32 => ?_) (fun hf32 => ?_)
                · refine TE_gq rfl rfl rfl rfl (RD.move rfl) rfl ?_
                  refine TE_gq rfl rfl rfl rfl (RD.idxR (i := 0) (o := (0 * 33 + 0)) Try.runUnderlying33 Try.sizeOf28 rfl hRD10 rfl rfl (by have := kinds4 hokb (by assumption); omega) (by rfl)) rfl ?_
                  refine TE_gq rfl rfl rfl rfl (RD.ldRA (i := 0) (j := 0) (vs := (lnkC (gt (linksL x) 0))) Try.isAgg28 Try.sizeOf28 rfl hRD10 (gt_some (by have := kinds4 hokb (by assumption); omega)) (by rfl) rfl (fun _ _ hu => by rw [Nat.zero_add]; exact hu) (lnkC_agg _) (fun _ hw => hw.sp (fun a => by simp -failIfUnchanged <;> omega))) rfl ?_
                  refine TE_gq rfl rfl rfl rfl (RD.fieldAddr (o := 36) Try.runUnderlying30 rfl rfl Try.sizeOf28 rfl) rfl ?_
                  refine TE_gq rfl rfl rfl rfl (RD.loadA (i := 0) (v := lnkV x.tg) Try.isAgg28 Try.sizeOf28 rfl rfl (Nat.le_of_ble_eq_true rfl) (obj_tg _ _ _ _)) rfl ?_
                  refine TE_gq rfl rfl rfl rfl (RD.eql_agg Try.eqGuardType28 (eq_lnk (gt (linksL x) 0) x.tg) rfl rfl) rfl ?_
                  refine TE_q rfl rfl (RD.pickT rfl rfl) rfl ?_
                  refine TE_q rfl rfl (RD.assign rfl) rfl ?_
                  refine TE_nil ?_
                  exact pn_give () trivial ⟨congrArg (fun b => some (Value.bool b)) (by first | (simp [hf32]; done) | (simp only [decide_eq_true hf32]; rfl)), trivial⟩ (fun _ hw => hw.sp (fun a => by simp -failIfUnchanged <;> omega))
                · refine TE_s rfl rfl rfl rfl rfl ?_
                  refine TE_s rfl rfl rfl rfl rfl ?_
                  refine TE_s rfl rfl rfl rfl rfl ?_
                  refine TE_s rfl rfl rfl rfl rfl ?_
                  refine TE_s rfl rfl rfl rfl rfl ?_
                  refine TE_s rfl rfl rfl rfl rfl ?_
                  refine TE_q rfl rfl (RD.pickF rfl rfl) rfl ?_
                  refine TE_q rfl rfl (RD.assign rfl) rfl ?_
                  refine TE_nil ?_
                  exact pn_give () trivial ⟨congrArg (fun b => some (Value.bool b)) (by first | (simp [hf32]; done) | (simp only [decide_eq_false hf32]; rfl)), trivial⟩ (fun _ hw => hw.sp (fun a => by simp -failIfUnchanged <;> omega))
              rintro _ -
              refine pn_ret ?_
              exact pn_doneS [] rfl rfl ⟨(congrArg Value.bool (by have ⟨q1, q2⟩ := kinds4 hokb hc31; rw [q1, q2]; simp [same_lnk_self])), rfl⟩ (fun _ => Nat.zero_le _) (fun _ he => nomatch he)
            · refine pn_skip ?_
              refine pn_seq ?_
              refine pn_plainG [3] (bldMx 28 (lnkC) (linksL x) st7) rfl (fun a => by simp -failIfUnchanged <;> omega) ?_
              refine TE_q rfl rfl (RD.move rfl) rfl ?_
              refine TE_q rfl rfl (RD.move rfl) rfl ?_
              refine TE_gq rfl rfl rfl rfl (RD.move rfl) rfl ?_
              refine TE_gq rfl rfl rfl rfl (RD.lenX Try.runUnderlying33 rfl hRD10) rfl ?_
              refine TE_gq rfl rfl rfl rfl (RD.eql rfl rfl) rfl ?_
              refine TE_q rfl rfl (RD.pickT rfl rfl) rfl ?_
              refine TE_q rfl rfl (RD.assign rfl) rfl ?_
              refine TE_nil0 ?_
              refine pn_ret ?_
              exact pn_doneS [] rfl rfl ⟨(congrArg Value.bool (by rw [kinds1 hc25 hc27 hc31]; rfl)), rfl⟩ (fun _ => Nat.zero_le _) (fun _ he => nomatch he)

end Go.Proofs.Ytloljpefdecmhaa
