import Derived.Test.YtloljpefdecmhaaGreatDoorGax
namespace Go.Proofs.YtloljpefdecmhaaGreatDoor
open Go Go.Mv
set_option maxRecDepth 8000
theorem alive_a (x : List UInt8) (h : x = [1, 2, 97, 98]) : (Value.bool (decide ((⟨x.toArray⟩ : ByteArray) = ⟨#[1, 2, 97, 98]⟩))) = .bool true := by subst h; rfl
theorem alive_b (x : List UInt8) (h : x = [2, 0]) : (Value.bool (decide ((⟨x.toArray⟩ : ByteArray) = ⟨#[2, 0]⟩))) = .bool true := by subst h; rfl
theorem absB {b c : Bool} (h1 : b = c) (h2 : b = !c) : False := by subst h1; cases b <;> cases h2
theorem absO {α : Type} {o : Option α} {x : α} (h1 : o = none) (h2 : o = some x) : False := by rw [h1] at h2; cases h2

theorem c_alive7  (w : World) (hH : Hp [] w) : Calls Tryz.prog 35 #[] w (Ret w [] fun v H1 => v = .bool true ∧ H1 = []) := by
  refine fn_enter (args := []) Tryz.func35 rfl Tryz.ntmps35 rfl hH ?_
  refine pn_seq ?_
  refine pn_plain [] rfl ?_
  refine TE_q rfl rfl (RD.assign rfl) rfl ?_
  refine TE_nil0 ?_
  refine pn_seq ?_
  refine pn_plain [] rfl ?_
  refine TE_buildSlice (cells := #[.int .u8 97, .int .u8 98]) rfl Tryz.runUnderlying32 Tryz.sizeOf5 Tryz.zeroValue5 rfl rfl rfl (by kernel_rfl) trivial rfl fun b8 hb8 => ?_
  refine TE_convSl 0 [(b8, .cells #[.int .u8 97, .int .u8 98] 5 (2, 3))] rfl rfl trivial rfl Tryz.underlying32 Tryz.underlying32 rfl Tryz.underlying5 rfl rfl (.inl hb8) rfl ?_
  refine TE_q rfl rfl (RD.build (v := objV (⟨1, [97, 98], [], (fun _ => 0), [], (⟨0, (fun _ => 0)⟩ : Lnk), ⟨#[]⟩⟩ : Ob) (.slice (some ⟨b8, 0, none⟩) 2 2) (.slice none 0 0) (.slice none 0 0)) rfl (fun w => by obtain ⟨a0, c0, e0⟩ := ((Rdb.of_x (Rdx.blk (enc := byteC) (H := [(b8, .cells #[.int .u8 97, .int .u8 98] 5 (2, 3))]) (xs := [97, 98]) (n := 2) (i := 0) (tl := []) (c := 2) byteC_len rfl rfl (Nat.le_refl _)))).shape; rw [e0]; kernel_rfl)) rfl ?_
  refine TE_callG _ [(b8, .cells #[.int .u8 97, .int .u8 98] 5 (2, 3))] rfl rfl trivial Tryz.call26 rfl rfl rfl (fun w hw => c_obEncode (⟨1, [97, 98], [], (fun _ => 0), [], (⟨0, (fun _ => 0)⟩ : Lnk), ⟨#[]⟩⟩ : Ob) (.slice (some ⟨b8, 0, none⟩) 2 2) (.slice none 0 0) (.slice none 0 0) [(b8, .cells #[.int .u8 97, .int .u8 98] 5 (2, 3))] w ((Rdb.of_x (Rdx.blk (enc := byteC) (H := [(b8, .cells #[.int .u8 97, .int .u8 98] 5 (2, 3))]) (xs := [97, 98]) (n := 2) (i := 0) (tl := []) (c := 2) byteC_len rfl rfl (Nat.le_refl _))).mono (fun _ hw => hw.sp (fun a => by simp -failIfUnchanged <;> omega))) Rdx.nil Rdx.nil (show ObOk _ from ⟨by decide, by decide, by decide, by decide, (by intro e h; cases h), zid_ok, zid_ok, (by intro e h; cases h), (by intro e h; cases h)⟩) (hw.sp (fun a => by simp -failIfUnchanged <;> omega))) (fun a => by simp -failIfUnchanged <;> omega) ?_
  rintro v7 H8 (⟨hok1, st2, hbo3, rfl, rfl⟩ | ⟨hok6, rfl, rfl⟩) hX9
  · have hRD5 : Rdx 1 (byteC) (bldMx 5 (byteC) (obB (⟨1, [97, 98], [], (fun _ => 0), [], (⟨0, (fun _ => 0)⟩ : Lnk), ⟨#[]⟩⟩ : Ob)) st2) (bldVx (obB (⟨1, [97, 98], [], (fun _ => 0), [], (⟨0, (fun _ => 0)⟩ : Lnk), ⟨#[]⟩⟩ : Ob)) st2) (obB (⟨1, [97, 98], [], (fun _ => 0), [], (⟨0, (fun _ => 0)⟩ : Lnk), ⟨#[]⟩⟩ : Ob)) := hbo3.rdx (u := 5) byteC_len; refine TE_sp ((b8, .cells #[.int .u8 97, .int .u8 98] 5 (2, 3)) :: (bldMx 5 (byteC) (obB (⟨1, [97, 98], [], (fun _ => 0), [], (⟨0, (fun _ => 0)⟩ : Lnk), ⟨#[]⟩⟩ : Ob)) st2)) (fun a => by simp -failIfUnchanged <;> omega) ?_
    refine TE_q rfl rfl (RD.move rfl) rfl ?_
    refine TE_q rfl rfl (RD.extract rfl rfl) rfl ?_
    refine TE_q rfl rfl (RD.extract rfl rfl) rfl ?_
    refine TE_q rfl rfl (RD.assign rfl) rfl ?_
    refine TE_q rfl rfl (RD.assign rfl) rfl ?_
    refine TE_nil0 ?_
    refine pn_seq ?_
    refine pn_plainG [] (bldMx 5 (byteC) (obB (⟨1, [97, 98], [], (fun _ => 0), [], (⟨0, (fun _ => 0)⟩ : Lnk), ⟨#[]⟩⟩ : Ob)) st2) rfl (fun a => by simp -failIfUnchanged <;> omega) ?_
    refine TE_q rfl rfl (RD.build (v := objV (⟨2, [], [], (fun _ => 0), [], (⟨0, (fun _ => 0)⟩ : Lnk), ⟨#[]⟩⟩ : Ob) (.slice none 0 0) (.slice none 0 0) (.slice none 0 0)) rfl (fun w => by kernel_rfl)) rfl ?_
    refine TE_callG _ [] rfl rfl trivial Tryz.call26 rfl rfl rfl (fun w hw => c_obEncode (⟨2, [], [], (fun _ => 0), [], (⟨0, (fun _ => 0)⟩ : Lnk), ⟨#[]⟩⟩ : Ob) (.slice none 0 0) (.slice none 0 0) (.slice none 0 0) [] w (.inl ⟨rfl, rfl⟩) Rdx.nil Rdx.nil (show ObOk _ from ⟨by decide, by decide, by decide, by decide, (by intro e h; cases h), zid_ok, zid_ok, (by intro e h; cases h), (by intro e h; cases h)⟩) (hw.sp (fun a => by simp -failIfUnchanged <;> omega))) (fun a => by simp -failIfUnchanged <;> omega) ?_
    rintro v16 H17 (⟨hok10, st11, hbo12, rfl, rfl⟩ | ⟨hok15, rfl, rfl⟩) hX18
    · have hRD14 : Rdx 1 (byteC) (bldMx 5 (byteC) (obB (⟨2, [], [], (fun _ => 0), [], (⟨0, (fun _ => 0)⟩ : Lnk), ⟨#[]⟩⟩ : Ob)) st11) (bldVx (obB (⟨2, [], [], (fun _ => 0), [], (⟨0, (fun _ => 0)⟩ : Lnk), ⟨#[]⟩⟩ : Ob)) st11) (obB (⟨2, [], [], (fun _ => 0), [], (⟨0, (fun _ => 0)⟩ : Lnk), ⟨#[]⟩⟩ : Ob)) := hbo12.rdx (u := 5) byteC_len; refine TE_sp ((bldMx 5 (byteC) (obB (⟨2, [], [], (fun _ => 0), [], (⟨0, (fun _ => 0)⟩ : Lnk), ⟨#[]⟩⟩ : Ob)) st11) ++ (bldMx 5 (byteC) (obB (⟨1, [97, 98], [], (fun _ => 0), [], (⟨0, (fun _ => 0)⟩ : Lnk), ⟨#[]⟩⟩ : Ob)) st2)) (fun a => by simp -failIfUnchanged <;> omega) ?_
      refine TE_q rfl rfl (RD.move rfl) rfl ?_
      refine TE_q rfl rfl (RD.extract rfl rfl) rfl ?_
      refine TE_q rfl rfl (RD.extract rfl rfl) rfl ?_
      refine TE_q rfl rfl (RD.assign rfl) rfl ?_
      refine TE_q rfl rfl (RD.assign rfl) rfl ?_
      refine TE_nil0 ?_
      refine pn_seq ?_
      refine pn_plain [] rfl ?_
      refine TE_buildSlice (cells := #[.int .u8 2, .int .u8 1]) rfl Tryz.runUnderlying32 Tryz.sizeOf5 Tryz.zeroValue5 rfl rfl rfl (by kernel_rfl) trivial rfl fun b20 hb20 => ?_
      refine TE_callG _ [(b20, .cells #[.int .u8 2, .int .u8 1] 5 (0, 0))] rfl rfl trivial Tryz.call28 rfl rfl rfl (fun w hw => c_parse (.slice (some ⟨b20, 0, none⟩) 2 2) [2, 1] [(b20, .cells #[.int .u8 2, .int .u8 1] 5 (0, 0))] w ((Rdb.of_x (Rdx.blk (enc := byteC) (H := [(b20, .cells #[.int .u8 2, .int .u8 1] 5 (0, 0))]) (xs := [2, 1]) (n := 2) (i := 0) (tl := []) (c := 2) byteC_len rfl rfl (Nat.le_refl _))).mono (fun _ hw => hw.sp (fun a => by simp -failIfUnchanged <;> omega))) (by first | assumption | omega | (simp; done) | (simp; omega)) (hw.sp (fun a => by simp -failIfUnchanged <;> omega))) (fun a => by simp -failIfUnchanged <;> omega) ?_
      rintro v32 H33 (⟨x19, st23, st26, st29, hpm20, hox21, hbo24, hbo27, hbo30, rfl, rfl⟩ | ⟨hpm20, rfl, rfl⟩) hX34
      · exact (absO (show parseM [2, 1] = none from by kernel_rfl) hpm20).elim
      · refine TE_q rfl rfl (RD.move rfl) rfl ?_
        refine TE_q rfl rfl (RD.extract rfl rfl) rfl ?_
        refine TE_q rfl rfl (RD.extract rfl rfl) rfl ?_
        refine TE_allocC (objV (⟨0, [], [], (fun _ => 0), [], (⟨0, (fun _ => 0)⟩ : Lnk), ⟨#[]⟩⟩ : Ob) (.slice none 0 0) (.slice none 0 0) (.slice none 0 0)).cells rfl Tryz.zeroValue48 rfl trivial rfl fun b5 hb5 => ?_
        refine TE_putCW 0 (objV (⟨0, [], [], (fun _ => 0), [], (⟨0, (fun _ => 0)⟩ : Lnk), ⟨#[]⟩⟩ : Ob) (.slice none 0 0) (.slice none 0 0) (.slice none 0 0)).cells (objV (⟨0, [], [], (fun _ => 0), [], (⟨0, (fun _ => 0)⟩ : Lnk), ⟨#[]⟩⟩ : Ob) (.slice none 0 0) (.slice none 0 0) (.slice none 0 0)).cells ((b5, .cells (objV (⟨0, [], [], (fun _ => 0), [], (⟨0, (fun _ => 0)⟩ : Lnk), ⟨#[]⟩⟩ : Ob) (.slice none 0 0) (.slice none 0 0) (.slice none 0 0)).cells 48 (0, 0)) :: (b20, .cells #[.int .u8 2, .int .u8 1] 5 (0, 0)) :: ((bldMx 5 (byteC) (obB (⟨2, [], [], (fun _ => 0), [], (⟨0, (fun _ => 0)⟩ : Lnk), ⟨#[]⟩⟩ : Ob)) st11) ++ (bldMx 5 (byteC) (obB (⟨1, [97, 98], [], (fun _ => 0), [], (⟨0, (fun _ => 0)⟩ : Lnk), ⟨#[]⟩⟩ : Ob)) st2))) rfl Tryz.sizeOf48 trivial rfl rfl rfl (objV_one _ _ _ _ rfl rfl rfl) rfl rfl rfl rfl (.inl hb5) ?_
        refine TE_q rfl rfl (RD.assign rfl) rfl ?_
        refine TE_nil0 ?_
        refine pn_seq ?_
        refine pn_plainG [] ((bldMx 5 (byteC) (obB (⟨2, [], [], (fun _ => 0), [], (⟨0, (fun _ => 0)⟩ : Lnk), ⟨#[]⟩⟩ : Ob)) st11) ++ (bldMx 5 (byteC) (obB (⟨1, [97, 98], [], (fun _ => 0), [], (⟨0, (fun _ => 0)⟩ : Lnk), ⟨#[]⟩⟩ : Ob)) st2)) rfl (fun a => by simp -failIfUnchanged <;> omega) ?_
        refine TE_q rfl rfl (RD.move rfl) rfl ?_
        refine TE_q rfl rfl (RD.as (v := .bool true) (RD.eql rfl rfl) rfl) rfl ?_
        refine TE_q rfl rfl (RD.move rfl) rfl ?_
        refine TE_gq rfl rfl rfl rfl (RD.move rfl) rfl ?_
        refine TE_l rfl rfl ⟨_, rfl, rfl⟩ rfl (RD.str_of_bytes Tryz.underlying32 Tryz.underlying9 Tryz.underlying5 rfl (BytesIn.mono ((Rdb.of_x hRD5)).bytes (fun _ hw => hw.sp (fun a => by simp -failIfUnchanged <;> omega)))) rfl ?_
        refine TE_gq rfl rfl rfl rfl (RD.as (v := .bool true) (RD.eql_string rfl rfl) (alive_a (obB (⟨1, [97, 98], [], (fun _ => 0), [], (⟨0, (fun _ => 0)⟩ : Lnk), ⟨#[]⟩⟩ : Ob)) (by simp [obB, wB, lebL, entsB]; try decide))) rfl ?_
        refine TE_q rfl rfl (RD.pickT rfl rfl) rfl ?_
        refine TE_q rfl rfl (RD.move rfl) rfl ?_
        refine TE_gq rfl rfl rfl rfl (RD.move rfl) rfl ?_
        refine TE_gq rfl rfl rfl rfl (RD.as (v := .bool true) (RD.eql rfl rfl) rfl) rfl ?_
        refine TE_q rfl rfl (RD.pickT rfl rfl) rfl ?_
        refine TE_q rfl rfl (RD.move rfl) rfl ?_
        refine TE_gq rfl rfl rfl rfl (RD.move rfl) rfl ?_
        refine TE_l rfl rfl ⟨_, rfl, rfl⟩ rfl (RD.str_of_bytes Tryz.underlying32 Tryz.underlying9 Tryz.underlying5 rfl (BytesIn.mono ((Rdb.of_x hRD14)).bytes (fun _ hw => hw.sp (fun a => by simp -failIfUnchanged <;> omega)))) rfl ?_
        refine TE_gq rfl rfl rfl rfl (RD.as (v := .bool true) (RD.eql_string rfl rfl) (alive_b (obB (⟨2, [], [], (fun _ => 0), [], (⟨0, (fun _ => 0)⟩ : Lnk), ⟨#[]⟩⟩ : Ob)) (by simp [obB, wB, lebL, entsB]; try decide))) rfl ?_
        refine TE_q rfl rfl (RD.pickT rfl rfl) rfl ?_
        refine TE_q rfl rfl (RD.move rfl) rfl ?_
        refine TE_gq rfl rfl rfl rfl (RD.move rfl) rfl ?_
        refine TE_gq rfl rfl rfl rfl (RD.as (v := .bool true) (RD.eql rfl rfl) rfl) rfl ?_
        refine TE_q rfl rfl (RD.pickT rfl rfl) rfl ?_
        refine TE_q rfl rfl (RD.assign rfl) rfl ?_
        refine TE_nil0 ?_
        refine pn_ret ?_
        exact pn_doneS [] rfl rfl ⟨rfl, rfl⟩ (fun _ => Nat.zero_le _) (fun _ he => nomatch he)
    · exact (absB (show obOkB (⟨2, [], [], (fun _ => 0), [], (⟨0, (fun _ => 0)⟩ : Lnk), ⟨#[]⟩⟩ : Ob) = true from by kernel_rfl) hok15).elim
  · exact (absB (show obOkB (⟨1, [97, 98], [], (fun _ => 0), [], (⟨0, (fun _ => 0)⟩ : Lnk), ⟨#[]⟩⟩ : Ob) = true from by kernel_rfl) hok6).elim

end Go.Proofs.YtloljpefdecmhaaGreatDoor
