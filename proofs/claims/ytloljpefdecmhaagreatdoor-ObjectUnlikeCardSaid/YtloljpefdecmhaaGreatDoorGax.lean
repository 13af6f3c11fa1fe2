import Derived.Test.YtloljpefdecmhaaGreatDoorGaw
namespace Go.Proofs.YtloljpefdecmhaaGreatDoor
open Go Go.Mv
set_option maxRecDepth 8000
/-- The object that is read, kind by kind, and what is left (none: something was wrong). -/
def readO (b : Option (List UInt8)) : Ob × Option (List UInt8) :=
  if (oneM b).1 = 1 then (⟨(oneM b).1, (getM [] (bytesD 1024) (oneM b).2).1, [], (fun _ => 0), [], (⟨0, (fun _ => 0)⟩ : Lnk), ⟨#[]⟩⟩, (getM [] (bytesD 1024) (oneM b).2).2)
  else if (oneM b).1 = 2 then (⟨(oneM b).1, [], (sevM entM 32 (oneM b).2).1, (fun _ => 0), [], (⟨0, (fun _ => 0)⟩ : Lnk), ⟨#[]⟩⟩, (sevM entM 32 (oneM b).2).2)
  else if (oneM b).1 = 3 then
    (⟨(oneM b).1, [], [], (idM (oneM b).2).1, (sevM idM 4 (idM (oneM b).2).2).1, (⟨0, (fun _ => 0)⟩ : Lnk), (textM (sevM idM 4 (idM (oneM b).2).2).2).1⟩, (textM (sevM idM 4 (idM (oneM b).2).2).2).2)
  else if (oneM b).1 = 4 then
    (⟨(oneM b).1, [], [], (fun _ => 0), [], (⟨(oneM (oneM b).2).1, (idM (oneM (oneM b).2).2).1⟩ : Lnk), (textM (idM (oneM (oneM b).2).2).2).1⟩, (textM (idM (oneM (oneM b).2).2).2).2)
  else (⟨(oneM b).1, [], [], (fun _ => 0), [], (⟨0, (fun _ => 0)⟩ : Lnk), ⟨#[]⟩⟩, (oneM b).2)
def parseM (b : List UInt8) : Option Ob := match readO (some b) with
  | (x, some []) => if obOkB x then some x else none
  | _ => none
theorem stO_f (b : List UInt8) : stO b false = some b := rfl
theorem parse_ok {b ys : List UInt8} {wr : Bool} {x : Ob} (h : readO (stO b false) = (x, stO ys wr)) (hc : wr = false ∧ ¬ 0 < (ys.length : Int) ∧ err (obOkB x) 70 = 0) : parseM b = some x := by
  obtain ⟨rfl, h2, h3⟩ := hc
  obtain rfl : ys = [] := List.length_eq_zero_iff.1 (by omega)
  rw [stO_f] at h
  rw [parseM, h]
  show (if obOkB x = true then some x else none) = some x
  rw [if_pos (err0 h3)]
theorem parse_no {b ys : List UInt8} {wr : Bool} {x : Ob} (h : readO (stO b false) = (x, stO ys wr)) (hc : wr = true ∨ 0 < (ys.length : Int) ∨ ¬ err (obOkB x) 70 = 0) : parseM b = none := by
  rw [stO_f] at h
  rw [parseM, h]
  rcases hc with rfl | h2 | h3
  · rfl
  · cases wr with
    | true => rfl
    | false =>
      cases ys with
      | nil => simp at h2
      | cons c l => rfl
  · have h4 := err1 h3
    cases wr with
    | true => rfl
    | false =>
      cases ys with
      | nil => show (if obOkB x = true then some x else none) = none; rw [h4]; rfl
      | cons c l => rfl
theorem tip_ok (l : List UInt8) : IdOk (tipOf l) := fun i => by
  have h := UInt8.toNat_lt (l.getD i 0)
  show 0 ≤ ((l.getD i 0).toNat : Int) ∧ ((l.getD i 0).toNat : Int) ≤ 255
  omega
theorem idM_ok (o : Option (List UInt8)) : IdOk (idM o).1 := tip_ok _
theorem idM_can (o : Option (List UInt8)) : IdCan (idM o).1 := fun i hi => by
  show ((((getM [] (rawD 32) o).1).getD i 0).toNat : Int) = 0
  rw [List.getD_eq_getElem?_getD, List.getElem?_eq_none (Nat.le_trans getRaw_len hi)]; rfl
theorem bytesD_le {m : Nat} {ys b r : List UInt8} (h : bytesD m ys = .ok b r) : b.length ≤ m := by
  unfold bytesD at h
  split at h
  · cases h
  · rename_i n r1 hn
    have h1 := numD_le hn
    unfold rawD at h
    split at h
    · cases h
    · cases h
      rw [List.length_take]; omega
theorem getB_le {m : Nat} {o : Option (List UInt8)} : (getM [] (bytesD m) o).1.length ≤ m := by
  cases o with
  | none => exact Nat.zero_le _
  | some ys =>
    simp only [getM]
    split
    · rename_i h; exact bytesD_le h
    · exact Nat.zero_le _
theorem textM_le (o : Option (List UInt8)) : (textM o).1.size ≤ 5000 := by
  have h := getB_le (m := 4000) (o := o)
  show ((getM [] (bytesD 4000) o).1.toArray).size ≤ 5000
  simp only [List.size_toArray]; omega
theorem sevL_le {α : Type} (f : Option (List UInt8) → α × Option (List UInt8)) : ∀ (n : Nat) (o : Option (List UInt8)), (sevL f n o).1.length ≤ n
  | 0, _ => Nat.le_refl _
  | _ + 1, none => Nat.zero_le _
  | n + 1, some ys => by
    have := sevL_le f n (f (some ys)).2
    simp only [sevL, List.length_cons]; omega
theorem sevM_le {α : Type} (f : Option (List UInt8) → α × Option (List UInt8)) (n : Nat) (o : Option (List UInt8)) : (sevM f n o).1.length ≤ n := Nat.le_trans (sevL_le f _ _) getNum_le
theorem sevL_all {α : Type} {f : Option (List UInt8) → α × Option (List UInt8)} {Q : α → Prop} (hf : ∀ o, Q (f o).1) : ∀ (n : Nat) (o : Option (List UInt8)), ∀ x ∈ (sevL f n o).1, Q x
  | 0, _, _, h => by cases h
  | _ + 1, none, _, h => by cases h
  | n + 1, some ys, x, h => by
    rcases List.mem_cons.1 h with rfl | h
    · exact hf _
    · exact sevL_all hf n _ x h
theorem entM_ok (o : Option (List UInt8)) : EntOk (entM o).1 := ⟨textM_le _, idM_ok _⟩
theorem zid_ok : IdOk (fun _ => 0) := fun _ => by show (0 : Int) ≤ 0 ∧ (0 : Int) ≤ 255; decide
theorem ok_k1 (k : Int) (o : Option (List UInt8)) : ObOk ⟨k, (getM [] (bytesD 1024) o).1, [], (fun _ => 0), [], (⟨0, (fun _ => 0)⟩ : Lnk), ⟨#[]⟩⟩ :=
  ⟨by have := getB_le (m := 1024) (o := o); show (getM [] (bytesD 1024) o).1.length ≤ 1100; omega, Nat.zero_le _, Nat.zero_le _, Nat.zero_le _, (by intro e h; cases h), zid_ok, zid_ok, (by intro e h; cases h), (by intro e h; cases h)⟩
theorem ok_k2 (k : Int) (o : Option (List UInt8)) : ObOk ⟨k, [], (sevM entM 32 o).1, (fun _ => 0), [], (⟨0, (fun _ => 0)⟩ : Lnk), ⟨#[]⟩⟩ :=
  ⟨Nat.zero_le _, Nat.le_trans (sevM_le _ _ _) (by decide), Nat.zero_le _, Nat.zero_le _, sevL_all entM_ok _ _, zid_ok, zid_ok, (by intro e h; cases h), (by intro e h; cases h)⟩
theorem ok_k3 (k : Int) (o1 o2 o3 : Option (List UInt8)) : ObOk ⟨k, [], [], (idM o1).1, (sevM idM 4 o2).1, (⟨0, (fun _ => 0)⟩ : Lnk), (textM o3).1⟩ :=
  ⟨Nat.zero_le _, Nat.zero_le _, Nat.le_trans (sevM_le _ _ _) (by decide), textM_le _, (by intro e h; cases h), idM_ok _, zid_ok, sevL_all idM_ok _ _, sevL_all idM_can _ _⟩
theorem ok_k4 (k j : Int) (o1 o2 : Option (List UInt8)) : ObOk ⟨k, [], [], (fun _ => 0), [], (⟨j, (idM o1).1⟩ : Lnk), (textM o2).1⟩ :=
  ⟨Nat.zero_le _, Nat.zero_le _, Nat.zero_le _, textM_le _, (by intro e h; cases h), zid_ok, idM_ok _, (by intro e h; cases h), (by intro e h; cases h)⟩
theorem ok_k0 (k : Int) : ObOk ⟨k, [], [], (fun _ => 0), [], (⟨0, (fun _ => 0)⟩ : Lnk), ⟨#[]⟩⟩ :=
  ⟨Nat.zero_le _, Nat.zero_le _, Nat.zero_le _, Nat.zero_le _, (by intro e h; cases h), zid_ok, zid_ok, (by intro e h; cases h), (by intro e h; cases h)⟩

theorem c_fromC (HX : Mem) (xv : Value) (ys : List UInt8) (w : World) (hb : BytesIn HX xv ys) (hlen : ys.length ≤ 2199023255552) (hH : Hp HX w) : Calls Tryz.prog 64 #[xv] w (Ret w [] fun v H1 => ∃ s sv H2, v = .pointer (some ⟨s, 0, none⟩) ∧ H1 = ((s, .cells #[sv] 180 (0, 0)) :: H2) ∧ Rdb H2 sv ys) := c_from HX xv ys w hb hlen hH
theorem c_leftC (HX : Mem) (s : Nat) (sv : Value) (ys : List UInt8) (w : World) (hb : Rdb HX sv ys) (hw : Hp ((s, .cells #[sv] 180 (0, 0)) :: HX) w) : Calls Tryz.prog 73 #[.pointer (some ⟨s, 0, none⟩)] w (Ret w [] fun v H1 => v = .int .i64 ys.length ∧ H1 = []) := c_left HX s sv ys w hb hw

theorem c_parse (bv : Value) (b : List UInt8) (HX : Mem) (w : World) (hbb : Rdb HX bv b) (hlb : b.length ≤ 1000000) (hH : Hp HX w) : Calls Tryz.prog 28 #[bv] w (Ret w [] fun v H1 => (∃ x s1 s2 s3, parseM b = some x ∧ ObOk x ∧ BldOk 1 (byteC) x.data s1 ∧ BldOk 34 (entC) x.ents s2 ∧ BldOk 32 (idC) x.pars s3 ∧ v = .tuple #[objV x (bldVx x.data s1) (bldVx x.ents s2) (bldVx x.pars s3), .int .i64 0] ∧ H1 = (bldMx 5 (byteC) x.data s1 ++ (bldMx 97 (entC) x.ents s2 ++ bldMx 36 (idC) x.pars s3))) ∨ (parseM b = none ∧ v = .tuple #[objV (⟨0, [], [], (fun _ => 0), [], (⟨0, (fun _ => 0)⟩ : Lnk), ⟨#[]⟩⟩ : Ob) (.slice none 0 0) (.slice none 0 0) (.slice none 0 0), .int .i64 70] ∧ H1 = [])) := by
  refine fn_enter (args := [_]) Tryz.func28 rfl Tryz.ntmps28 rfl hH ?_
  refine pn_seq ?_
  refine pn_plain [] rfl ?_
  refine TE_allocC (objV (⟨0, [], [], (fun _ => 0), [], (⟨0, (fun _ => 0)⟩ : Lnk), ⟨#[]⟩⟩ : Ob) (.slice none 0 0) (.slice none 0 0) (.slice none 0 0)).cells rfl Tryz.zeroValue48 rfl trivial rfl fun b2 hb2 => ?_
  refine TE_q rfl rfl (RD.assign rfl) rfl ?_
  refine TE_nil0 ?_
  refine pn_seq ?_
  refine pn_plain [] rfl ?_
  refine TE_q rfl rfl (RD.move rfl) rfl ?_
  refine TE_callG _ HX rfl rfl trivial Tryz.call64 rfl rfl rfl (fun w hw => c_fromC HX bv b w (BytesIn.mono (hbb).bytes (fun _ hw => hw.sp (fun a => by simp -failIfUnchanged <;> omega))) (by have h9 := ((show b.length ≤ 1000000 from hlb)); omega) (hw.sp (fun a => by simp -failIfUnchanged <;> omega))) (fun a => by simp -failIfUnchanged <;> omega) ?_
  rintro v6 H7 ⟨s1, sv2, HS3, rfl, rfl, hr4⟩ hX5
  refine TE_sp ((s1, .cells #[sv2] 180 (0, 0)) :: (b2, .cells (objV (⟨0, [], [], (fun _ => 0), [], (⟨0, (fun _ => 0)⟩ : Lnk), ⟨#[]⟩⟩ : Ob) (.slice none 0 0) (.slice none 0 0) (.slice none 0 0)).cells 48 (0, 0)) :: (HS3 ++ HX)) (fun a => by simp -failIfUnchanged <;> omega) ?_
  refine TE_q rfl rfl (RD.build (v := .agg #[.pointer (some ⟨s1, 0, none⟩), .bool false]) rfl (fun w => by simp [Instr.build, Tryz.zeroValue128, Tryz.runUnderlying128, Tryz.sizeOf125, Tryz.sizeOf4, Value.cells, Instr.fill])) rfl ?_
  refine TE_boxC #[.pointer (some ⟨s1, 0, none⟩), .bool false] rfl rfl rfl trivial rfl fun b10 hb10 => ?_
  refine TE_allocC #[.pointer none] rfl Tryz.zeroValue124 rfl trivial rfl fun b4 hb4 => ?_
  refine TE_storeC 0 #[.pointer none] #[.pointer (some ⟨b10, 0, none⟩)] ((b4, .cells #[.pointer (some ⟨b10, 0, none⟩)] 124 (0, 0)) :: (b10, .cells #[.pointer (some ⟨s1, 0, none⟩), .bool false] 128 (0, 0)) :: (s1, .cells #[sv2] 180 (0, 0)) :: (b2, .cells (objV (⟨0, [], [], (fun _ => 0), [], (⟨0, (fun _ => 0)⟩ : Lnk), ⟨#[]⟩⟩ : Ob) (.slice none 0 0) (.slice none 0 0) (.slice none 0 0)).cells 48 (0, 0)) :: (HS3 ++ HX)) rfl Tryz.sizeOf124 trivial rfl rfl rfl rfl rfl rfl rfl rfl (.inl hb4) ?_
  refine TE_nil0 ?_
  refine pn_seq ?_
  refine pn_plain [] rfl ?_
  refine TE_l rfl rfl trivial rfl (RD.load (i := 0) Tryz.isAgg124 rfl rfl rfl) rfl ?_
  refine TE_callM _ ((b10, .cells #[.pointer (some ⟨s1, 0, none⟩), .bool false] 128 (0, 0)) :: (s1, .cells #[sv2] 180 (0, 0)) :: HS3) ((b4, .cells #[.pointer (some ⟨b10, 0, none⟩)] 124 (0, 0)) :: (b2, .cells (objV (⟨0, [], [], (fun _ => 0), [], (⟨0, (fun _ => 0)⟩ : Lnk), ⟨#[]⟩⟩ : Ob) (.slice none 0 0) (.slice none 0 0) (.slice none 0 0)).cells 48 (0, 0)) :: HX) ((b10, .cells #[.pointer (some ⟨s1, 0, none⟩), .bool false] 128 (0, 0)) :: (s1, .cells #[sv2] 180 (0, 0)) :: HS3) rfl rfl trivial Tryz.call65 rfl rfl rfl (ownC (.inl hb10) (ownC (.inl (hX5 _ List.mem_cons_self)) (ownN (fun e he => hX5 e (List.mem_cons_of_mem _ he))))) (fun a => by simp -failIfUnchanged <;> omega) (fun w hw => c_rdOne b10 s1 sv2 b false HS3 w (hr4.mono (fun _ hw => hw.sp (fun a => by simp -failIfUnchanged <;> omega))) hlb (hw.sp (fun a => by simp -failIfUnchanged <;> omega))) (fun a => by simp -failIfUnchanged <;> omega) ?_
  rintro v15 H16 ⟨wr9, ys10, sv11, hr12, hrl13, hg14, rfl, rfl⟩ hX8
  refine TE_sp ((b10, .cells #[.pointer (some ⟨s1, 0, none⟩), .bool wr9] 128 (0, 0)) :: (s1, .cells #[sv11] 180 (0, 0)) :: (b4, .cells #[.pointer (some ⟨b10, 0, none⟩)] 124 (0, 0)) :: (b2, .cells (objV (⟨0, [], [], (fun _ => 0), [], (⟨0, (fun _ => 0)⟩ : Lnk), ⟨#[]⟩⟩ : Ob) (.slice none 0 0) (.slice none 0 0) (.slice none 0 0)).cells 48 (0, 0)) :: (HS3 ++ HX)) (fun a => by simp -failIfUnchanged <;> omega) ?_
  refine TE_q rfl rfl (RD.build (v := objV (⟨(oneM (stO b false)).1, [], [], (fun _ => 0), [], (⟨0, (fun _ => 0)⟩ : Lnk), ⟨#[]⟩⟩ : Ob) (.slice none 0 0) (.slice none 0 0) (.slice none 0 0)) rfl (fun w => by kernel_rfl)) rfl ?_
  refine TE_allocC (objV (⟨0, [], [], (fun _ => 0), [], (⟨0, (fun _ => 0)⟩ : Lnk), ⟨#[]⟩⟩ : Ob) (.slice none 0 0) (.slice none 0 0) (.slice none 0 0)).cells rfl Tryz.zeroValue48 rfl trivial rfl fun b5 hb5 => ?_
  refine TE_putCW 0 (objV (⟨0, [], [], (fun _ => 0), [], (⟨0, (fun _ => 0)⟩ : Lnk), ⟨#[]⟩⟩ : Ob) (.slice none 0 0) (.slice none 0 0) (.slice none 0 0)).cells (objV (⟨(oneM (stO b false)).1, [], [], (fun _ => 0), [], (⟨0, (fun _ => 0)⟩ : Lnk), ⟨#[]⟩⟩ : Ob) (.slice none 0 0) (.slice none 0 0) (.slice none 0 0)).cells ((b5, .cells (objV (⟨(oneM (stO b false)).1, [], [], (fun _ => 0), [], (⟨0, (fun _ => 0)⟩ : Lnk), ⟨#[]⟩⟩ : Ob) (.slice none 0 0) (.slice none 0 0) (.slice none 0 0)).cells 48 (0, 0)) :: (b10, .cells #[.pointer (some ⟨s1, 0, none⟩), .bool wr9] 128 (0, 0)) :: (s1, .cells #[sv11] 180 (0, 0)) :: (b4, .cells #[.pointer (some ⟨b10, 0, none⟩)] 124 (0, 0)) :: (b2, .cells (objV (⟨0, [], [], (fun _ => 0), [], (⟨0, (fun _ => 0)⟩ : Lnk), ⟨#[]⟩⟩ : Ob) (.slice none 0 0) (.slice none 0 0) (.slice none 0 0)).cells 48 (0, 0)) :: (HS3 ++ HX)) rfl Tryz.sizeOf48 trivial rfl rfl rfl (objV_one _ _ _ _ rfl rfl rfl) rfl rfl rfl rfl (.inl hb5) ?_
  refine TE_nil0 ?_
  refine pn_seq ?_
  refine pn_plain [] rfl ?_
  refine TE_q rfl rfl (RD.makeFunc rfl rfl) rfl ?_
  refine TE_allocC #[.nilFunc] rfl Tryz.zeroValue131 rfl trivial rfl fun b6 hb6 => ?_
  refine TE_storeC 0 #[.nilFunc] #[.func (.func 66) #[] #[.pointer (some ⟨b4, 0, none⟩)]] ((b6, .cells #[.func (.func 66) #[] #[.pointer (some ⟨b4, 0, none⟩)]] 131 (0, 0)) :: (b5, .cells (objV (⟨(oneM (stO b false)).1, [], [], (fun _ => 0), [], (⟨0, (fun _ => 0)⟩ : Lnk), ⟨#[]⟩⟩ : Ob) (.slice none 0 0) (.slice none 0 0) (.slice none 0 0)).cells 48 (0, 0)) :: (b10, .cells #[.pointer (some ⟨s1, 0, none⟩), .bool wr9] 128 (0, 0)) :: (s1, .cells #[sv11] 180 (0, 0)) :: (b4, .cells #[.pointer (some ⟨b10, 0, none⟩)] 124 (0, 0)) :: (b2, .cells (objV (⟨0, [], [], (fun _ => 0), [], (⟨0, (fun _ => 0)⟩ : Lnk), ⟨#[]⟩⟩ : Ob) (.slice none 0 0) (.slice none 0 0) (.slice none 0 0)).cells 48 (0, 0)) :: (HS3 ++ HX)) rfl Tryz.sizeOf131 trivial rfl rfl rfl rfl rfl rfl rfl rfl (.inl hb6) ?_
  refine TE_nil0 ?_
  refine pn_seq ?_
  refine pn_seq ?_
  refine pn_plain [] rfl ?_
  refine TE_q rfl rfl (RD.fieldAddr (o := 0) Tryz.runUnderlying48 rfl rfl Tryz.sizeOf3 rfl) rfl ?_
  refine TE_l rfl rfl trivial rfl (RD.load (i := 1) (v := .int .i64 ((oneM (stO b false)).1)) Tryz.isAgg3 rfl rfl rfl) rfl ?_
  refine TE_nil0 ?_
  refine pn_block ?_
  refine pn_seq ?_
  refine pn_plain [] rfl ?_
  refine TE_q rfl rfl (RD.eql rfl rfl) rfl ?_
  refine TE_q rfl rfl (RD.assign rfl) rfl ?_
  refine TE_nil0 ?_
  refine pn_condD rfl (fun hc17 => ?_) (fun hc17 => ?_)
  · refine pn_drawG [0, 1] ((b5, .cells (objV (⟨(oneM (stO b false)).1, [], [], (fun _ => 0), [], (⟨0, (fun _ => 0)⟩ : Lnk), ⟨#[]⟩⟩ : Ob) (.slice none 0 0) (.slice none 0 0) (.slice none 0 0)).cells 48 (0, 0)) :: (b10, .cells #[.pointer (some ⟨s1, 0, none⟩), .bool wr9] 128 (0, 0)) :: (s1, .cells #[sv11] 180 (0, 0)) :: HS3) ((b6, .cells #[.func (.func 66) #[] #[.pointer (some ⟨b4, 0, none⟩)]] 131 (0, 0)) :: (b4, .cells #[.pointer (some ⟨b10, 0, none⟩)] 124 (0, 0)) :: (b2, .cells (objV (⟨0, [], [], (fun _ => 0), [], (⟨0, (fun _ => 0)⟩ : Lnk), ⟨#[]⟩⟩ : Ob) (.slice none 0 0) (.slice none 0 0) (.slice none 0 0)).cells 48 (0, 0)) :: HX) rfl rfl (by kernel_rfl) (fun a => by simp -failIfUnchanged <;> omega) ?_
    refine TE_q rfl rfl (RD.load (i := 1) Tryz.isAgg124 rfl rfl rfl) rfl ?_
    refine TE_q rfl rfl (RD.load (i := 1) Tryz.isAgg124 rfl rfl rfl) rfl ?_
    refine TE_q rfl rfl (RD.nilCheckP rfl) rfl ?_
    refine TE_q rfl rfl (RD.fieldAddr (o := 0) Tryz.runUnderlying128 rfl rfl Tryz.sizeOf125 rfl) rfl ?_
    refine TE_l rfl rfl trivial rfl (RD.load (i := 1) Tryz.isAgg125 rfl rfl rfl) rfl ?_
    refine TE_q rfl rfl (RD.makeFunc rfl rfl) rfl ?_
    refine TE_callM _ ((b10, .cells #[.pointer (some ⟨s1, 0, none⟩), .bool wr9] 128 (0, 0)) :: (s1, .cells #[sv11] 180 (0, 0)) :: HS3) [(b5, .cells (objV (⟨(oneM (stO b false)).1, [], [], (fun _ => 0), [], (⟨0, (fun _ => 0)⟩ : Lnk), ⟨#[]⟩⟩ : Ob) (.slice none 0 0) (.slice none 0 0) (.slice none 0 0)).cells 48 (0, 0))] ((b10, .cells #[.pointer (some ⟨s1, 0, none⟩), .bool wr9] 128 (0, 0)) :: (s1, .cells #[sv11] 180 (0, 0)) :: HS3) rfl rfl trivial Tryz.call67 rfl rfl rfl (ownC (.inl hb10) (ownC (.inl (hX5 _ List.mem_cons_self)) (fun e he => hX8 e (List.mem_cons_of_mem _ (List.mem_cons_of_mem _ he))))) (fun a => by simp -failIfUnchanged <;> omega) (fun w hw => c_getBytes b10 s1 sv11 ys10 wr9 1024 HS3 w (hr12.mono (fun _ hw => hw.sp (fun a => by simp -failIfUnchanged <;> omega))) (by first | assumption | omega | (simp; done) | (simp; omega)) (by first | assumption | omega | (simp; done) | (simp; omega)) (hw.sp (fun a => by simp -failIfUnchanged <;> omega))) (fun a => by simp -failIfUnchanged <;> omega) ?_
    rintro v28 H29 ⟨wr22, ys23, sv24, st19, hr25, hrl26, hg27, hbo20, rfl, rfl⟩ hX21
    have hRD18 : Rdx 1 (byteC) (bldMx 5 (byteC) (getM [] (bytesD 1024) (stO ys10 wr9)).1 st19) (bldVx (getM [] (bytesD 1024) (stO ys10 wr9)).1 st19) (getM [] (bytesD 1024) (stO ys10 wr9)).1 := hbo20.rdx (u := 5) byteC_len
    refine TE_sp ((b10, .cells #[.pointer (some ⟨s1, 0, none⟩), .bool wr22] 128 (0, 0)) :: (s1, .cells #[sv24] 180 (0, 0)) :: (b5, .cells (objV (⟨(oneM (stO b false)).1, [], [], (fun _ => 0), [], (⟨0, (fun _ => 0)⟩ : Lnk), ⟨#[]⟩⟩ : Ob) (.slice none 0 0) (.slice none 0 0) (.slice none 0 0)).cells 48 (0, 0)) :: ((bldMx 5 (byteC) (getM [] (bytesD 1024) (stO ys10 wr9)).1 st19) ++ HS3)) (fun a => by simp -failIfUnchanged <;> omega) ?_
    refine TE_q rfl rfl (RD.fieldAddr (o := 1) Tryz.runUnderlying48 rfl rfl Tryz.sizeOf32 rfl) rfl ?_
    refine TE_storeC 2 (objV (⟨(oneM (stO b false)).1, [], [], (fun _ => 0), [], (⟨0, (fun _ => 0)⟩ : Lnk), ⟨#[]⟩⟩ : Ob) (.slice none 0 0) (.slice none 0 0) (.slice none 0 0)).cells (objV (⟨(oneM (stO b false)).1, (getM [] (bytesD 1024) (stO ys10 wr9)).1, [], (fun _ => 0), [], (⟨0, (fun _ => 0)⟩ : Lnk), ⟨#[]⟩⟩ : Ob) (bldVx (getM [] (bytesD 1024) (stO ys10 wr9)).1 st19) (.slice none 0 0) (.slice none 0 0)).cells ((b10, .cells #[.pointer (some ⟨s1, 0, none⟩), .bool wr22] 128 (0, 0)) :: (s1, .cells #[sv24] 180 (0, 0)) :: (b5, .cells (objV (⟨(oneM (stO b false)).1, (getM [] (bytesD 1024) (stO ys10 wr9)).1, [], (fun _ => 0), [], (⟨0, (fun _ => 0)⟩ : Lnk), ⟨#[]⟩⟩ : Ob) (bldVx (getM [] (bytesD 1024) (stO ys10 wr9)).1 st19) (.slice none 0 0) (.slice none 0 0)).cells 48 (0, 0)) :: ((bldMx 5 (byteC) (getM [] (bytesD 1024) (stO ys10 wr9)).1 st19) ++ HS3)) rfl Tryz.sizeOf32 trivial rfl rfl (bvx_cells _ _) (bvx_one _ _) rfl rfl (put_obj_data _ _ _ _ _ _) rfl (.inl hb5) ?_
    refine TE_nil ?_
    refine pn_seq ?_
    refine pn_seq ?_
    refine pn_plainG [] ((b10, .cells #[.pointer (some ⟨s1, 0, none⟩), .bool wr22] 128 (0, 0)) :: (s1, .cells #[sv24] 180 (0, 0)) :: (b5, .cells (objV (⟨(oneM (stO b false)).1, (getM [] (bytesD 1024) (stO ys10 wr9)).1, [], (fun _ => 0), [], (⟨0, (fun _ => 0)⟩ : Lnk), ⟨#[]⟩⟩ : Ob) (bldVx (getM [] (bytesD 1024) (stO ys10 wr9)).1 st19) (.slice none 0 0) (.slice none 0 0)).cells 48 (0, 0)) :: (b6, .cells #[.func (.func 66) #[] #[.pointer (some ⟨b4, 0, none⟩)]] 131 (0, 0)) :: (b4, .cells #[.pointer (some ⟨b10, 0, none⟩)] 124 (0, 0)) :: (b2, .cells (objV (⟨0, [], [], (fun _ => 0), [], (⟨0, (fun _ => 0)⟩ : Lnk), ⟨#[]⟩⟩ : Ob) (.slice none 0 0) (.slice none 0 0) (.slice none 0 0)).cells 48 (0, 0)) :: ((bldMx 5 (byteC) (getM [] (bytesD 1024) (stO ys10 wr9)).1 st19) ++ (HS3 ++ HX))) rfl (fun a => by simp -failIfUnchanged <;> omega) ?_
    refine TE_l rfl rfl trivial rfl (RD.load (i := 4) Tryz.isAgg124 rfl rfl rfl) rfl ?_
    refine TE_q rfl rfl (RD.nilCheckP rfl) rfl ?_
    refine TE_q rfl rfl (RD.fieldAddr (o := 1) Tryz.runUnderlying128 rfl rfl Tryz.sizeOf4 rfl) rfl ?_
    refine TE_l rfl rfl trivial rfl (RD.load (i := 0) Tryz.isAgg4 rfl rfl rfl) rfl ?_
    refine TE_q rfl rfl (RD.move rfl) rfl ?_
    refine TE_join (σ := Unit) (fun _ => [(2, .pointer (some ⟨b2, 0, none⟩)), (5, .pointer (some ⟨b5, 0, none⟩)), (75, .bool (wr22 || ((decide (0 < (ys23.length : Int))) || (!decide ((err (obOkB (⟨(oneM (stO b false)).1, (getM [] (bytesD 1024) (stO ys10 wr9)).1, [], (fun _ => 0), [], (⟨0, (fun _ => 0)⟩ : Lnk), ⟨#[]⟩⟩ : Ob)) 70) = 0)))))]) (fun _ => ((b10, .cells #[.pointer (some ⟨s1, 0, none⟩), .bool wr22] 128 (0, 0)) :: (s1, .cells #[sv24] 180 (0, 0)) :: (b5, .cells (objV (⟨(oneM (stO b false)).1, (getM [] (bytesD 1024) (stO ys10 wr9)).1, [], (fun _ => 0), [], (⟨0, (fun _ => 0)⟩ : Lnk), ⟨#[]⟩⟩ : Ob) (bldVx (getM [] (bytesD 1024) (stO ys10 wr9)).1 st19) (.slice none 0 0) (.slice none 0 0)).cells 48 (0, 0)) :: (b6, .cells #[.func (.func 66) #[] #[.pointer (some ⟨b4, 0, none⟩)]] 131 (0, 0)) :: (b4, .cells #[.pointer (some ⟨b10, 0, none⟩)] 124 (0, 0)) :: (b2, .cells (objV (⟨0, [], [], (fun _ => 0), [], (⟨0, (fun _ => 0)⟩ : Lnk), ⟨#[]⟩⟩ : Ob) (.slice none 0 0) (.slice none 0 0) (.slice none 0 0)).cells 48 (0, 0)) :: ((bldMx 5 (byteC) (getM [] (bytesD 1024) (stO ys10 wr9)).1 st19) ++ (HS3 ++ HX)))) (fun _ => True) ?_ ?_
    · refine TE_bool (fun hf30 => ?_) (fun hf30 => ?_)
      · refine TE_s rfl rfl rfl rfl rfl ?_
        refine TE_s rfl rfl rfl rfl rfl ?_
        refine TE_s rfl rfl rfl rfl rfl ?_
        refine TE_s rfl rfl rfl rfl rfl ?_
        refine TE_s rfl rfl rfl rfl rfl ?_
        refine TE_s rfl rfl rfl rfl rfl ?_
        refine TE_q rfl rfl (RD.pickT rfl rfl) rfl ?_
        refine TE_q rfl rfl (RD.move rfl) rfl ?_
        refine TE_s rfl rfl rfl rfl rfl ?_
        refine TE_s rfl rfl rfl rfl rfl ?_
        refine TE_s rfl rfl rfl rfl rfl ?_
        refine TE_q rfl rfl (RD.pickT rfl rfl) rfl ?_
        refine TE_nil0 ?_
        exact pn_give () trivial ⟨rfl, rfl, congrArg (fun b => some (Value.bool b)) (by first | (simp [hf30]; done) | (simp only [hf30]; rfl) | (simp only [hf30]; simp; done)), trivial⟩ (fun _ hw => hw.sp (fun a => by simp -failIfUnchanged <;> omega))
      · refine TE_l rfl rfl ⟨_, rfl, rfl⟩ rfl (RD.load (i := 4) Tryz.isAgg124 rfl rfl rfl) rfl ?_
        refine TE_gq rfl rfl rfl rfl (RD.nilCheckP rfl) rfl ?_
        refine TE_gq rfl rfl rfl rfl (RD.fieldAddr (o := 0) Tryz.runUnderlying128 rfl rfl Tryz.sizeOf125 rfl) rfl ?_
        refine TE_l rfl rfl ⟨_, rfl, rfl⟩ rfl (RD.load (i := 0) Tryz.isAgg125 rfl rfl rfl) rfl ?_
        refine TE_callG _ ((s1, .cells #[sv24] 180 (0, 0)) :: HS3) rfl rfl ⟨_, rfl, rfl⟩ Tryz.call73 rfl rfl rfl (fun w hw => c_leftC HS3 s1 sv24 ys23 w (hr25.mono (fun _ hw => hw.sp (fun a => by simp -failIfUnchanged <;> omega))) (hw.sp (fun a => by simp -failIfUnchanged <;> omega))) (fun a => by simp -failIfUnchanged <;> omega) ?_
        rintro v31 H32 ⟨rfl, rfl⟩ -
        refine TE_gq rfl rfl rfl rfl (RD.gtr rfl rfl) rfl ?_
        refine TE_q rfl rfl (RD.pickF rfl rfl) rfl ?_
        refine TE_q rfl rfl (RD.move rfl) rfl ?_
        refine TE_dec (fun hf33 => ?_) (fun hf33 => ?_)
        · refine TE_s rfl rfl rfl rfl rfl ?_
          refine TE_s rfl rfl rfl rfl rfl ?_
          refine TE_s rfl rfl rfl rfl rfl ?_
          refine TE_q rfl rfl (RD.pickT rfl rfl) rfl ?_
          refine TE_nil0 ?_
          exact pn_give () trivial ⟨rfl, rfl, congrArg (fun b => some (Value.bool b)) (by first | (simp [hf30, hf33]; done) | (simp only [hf30, decide_eq_true hf33]; rfl) | (simp only [hf30, decide_eq_true hf33]; simp; done)), trivial⟩ (fun _ hw => hw.sp (fun a => by simp -failIfUnchanged <;> omega))
        · refine TE_l rfl rfl ⟨_, rfl, rfl⟩ rfl (RD.loadA (i := 2) Tryz.isAgg48 Tryz.sizeOf48 rfl rfl (Nat.le_of_ble_eq_true rfl) (obj_all _ _ _ _)) rfl ?_
          refine TE_callG _ (bldMx 5 (byteC) (getM [] (bytesD 1024) (stO ys10 wr9)).1 st19) rfl rfl ⟨_, rfl, rfl⟩ Tryz.call33 rfl rfl rfl (fun w hw => c_obCheck (⟨(oneM (stO b false)).1, (getM [] (bytesD 1024) (stO ys10 wr9)).1, [], (fun _ => 0), [], (⟨0, (fun _ => 0)⟩ : Lnk), ⟨#[]⟩⟩ : Ob) (bldVx (getM [] (bytesD 1024) (stO ys10 wr9)).1 st19) (.slice none 0 0) (.slice none 0 0) (bldMx 5 (byteC) (getM [] (bytesD 1024) (stO ys10 wr9)).1 st19) w ((Rdb.of_x hRD18).mono (fun _ hw => hw.sp (fun a => by simp -failIfUnchanged <;> omega))) Rdx.nil Rdx.nil (ok_k1 _ _) (hw.sp (fun a => by simp -failIfUnchanged <;> omega))) (fun a => by simp -failIfUnchanged <;> omega) ?_
          rintro v34 H35 ⟨rfl, rfl⟩ -
          refine TE_gq rfl rfl rfl rfl (RD.neq rfl rfl) rfl ?_
          refine TE_q rfl rfl (RD.pickF rfl rfl) rfl ?_
          refine TE_nil0 ?_
          exact pn_give () trivial ⟨rfl, rfl, congrArg (fun b => some (Value.bool b)) (by first | (simp [hf30, hf33]; done) | (simp only [hf30, decide_eq_false hf33]; rfl) | (simp only [hf30, decide_eq_false hf33]; simp; done)), trivial⟩ (fun _ hw => hw.sp (fun a => by simp -failIfUnchanged <;> omega))
    rintro _ -
    refine pn_cond rfl (fun hc36 => ?_) (fun hc36 => ?_)
    · simp only [Bool.not_eq_true', Bool.or_eq_true, decide_eq_false_iff_not, decide_eq_true_eq] at hc36
      refine pn_seq ?_
      refine pn_plain [] rfl ?_
      refine TE_q rfl rfl (RD.build (v := objV (⟨0, [], [], (fun _ => 0), [], (⟨0, (fun _ => 0)⟩ : Lnk), ⟨#[]⟩⟩ : Ob) (.slice none 0 0) (.slice none 0 0) (.slice none 0 0)) rfl (fun w => by kernel_rfl)) rfl ?_
      refine TE_putCW 5 (objV (⟨0, [], [], (fun _ => 0), [], (⟨0, (fun _ => 0)⟩ : Lnk), ⟨#[]⟩⟩ : Ob) (.slice none 0 0) (.slice none 0 0) (.slice none 0 0)).cells (objV (⟨0, [], [], (fun _ => 0), [], (⟨0, (fun _ => 0)⟩ : Lnk), ⟨#[]⟩⟩ : Ob) (.slice none 0 0) (.slice none 0 0) (.slice none 0 0)).cells ((b10, .cells #[.pointer (some ⟨s1, 0, none⟩), .bool wr22] 128 (0, 0)) :: (s1, .cells #[sv24] 180 (0, 0)) :: (b5, .cells (objV (⟨(oneM (stO b false)).1, (getM [] (bytesD 1024) (stO ys10 wr9)).1, [], (fun _ => 0), [], (⟨0, (fun _ => 0)⟩ : Lnk), ⟨#[]⟩⟩ : Ob) (bldVx (getM [] (bytesD 1024) (stO ys10 wr9)).1 st19) (.slice none 0 0) (.slice none 0 0)).cells 48 (0, 0)) :: (b6, .cells #[.func (.func 66) #[] #[.pointer (some ⟨b4, 0, none⟩)]] 131 (0, 0)) :: (b4, .cells #[.pointer (some ⟨b10, 0, none⟩)] 124 (0, 0)) :: (b2, .cells (objV (⟨0, [], [], (fun _ => 0), [], (⟨0, (fun _ => 0)⟩ : Lnk), ⟨#[]⟩⟩ : Ob) (.slice none 0 0) (.slice none 0 0) (.slice none 0 0)).cells 48 (0, 0)) :: ((bldMx 5 (byteC) (getM [] (bytesD 1024) (stO ys10 wr9)).1 st19) ++ (HS3 ++ HX))) rfl Tryz.sizeOf48 trivial rfl rfl rfl (objV_one _ _ _ _ rfl rfl rfl) rfl rfl rfl rfl (.inl hb2) ?_
      refine TE_q rfl rfl (RD.assign rfl) rfl ?_
      refine TE_nil0 ?_
      refine pn_ret ?_
      have hrd : readO (stO b false) = ((⟨(oneM (stO b false)).1, (getM [] (bytesD 1024) (stO ys10 wr9)).1, [], (fun _ => 0), [], (⟨0, (fun _ => 0)⟩ : Lnk), ⟨#[]⟩⟩ : Ob), stO ys23 wr22) := (by simp only [readO, if_pos hc17, hg14, hg27])
      exact pn_doneF rfl ⟨objV (⟨0, [], [], (fun _ => 0), [], (⟨0, (fun _ => 0)⟩ : Lnk), ⟨#[]⟩⟩ : Ob) (.slice none 0 0) (.slice none 0 0) (.slice none 0 0), _, b2, 0, rfl, rfl, load_agg (i := 5) Tryz.isAgg48 Tryz.sizeOf48 rfl (Nat.le_of_ble_eq_true rfl) (obj_all _ _ _ _), ⟨_, _, rfl, rfl, rfl⟩⟩ (.inr ⟨parse_no hrd hc36, rfl, rfl⟩) (fun _ h => h.sp (fun _ => Nat.zero_le _)) (fun _ he => nomatch he)
    · simp only [Bool.not_eq_false', Bool.or_eq_false_iff, decide_eq_false_iff_not, decide_eq_true_eq] at hc36
      refine pn_skip ?_
      refine pn_seq ?_
      refine pn_plain [] rfl ?_
      refine TE_l rfl rfl trivial rfl (RD.loadA (i := 2) Tryz.isAgg48 Tryz.sizeOf48 rfl rfl (Nat.le_of_ble_eq_true rfl) (obj_all _ _ _ _)) rfl ?_
      refine TE_putCW 5 (objV (⟨0, [], [], (fun _ => 0), [], (⟨0, (fun _ => 0)⟩ : Lnk), ⟨#[]⟩⟩ : Ob) (.slice none 0 0) (.slice none 0 0) (.slice none 0 0)).cells (objV (⟨(oneM (stO b false)).1, (getM [] (bytesD 1024) (stO ys10 wr9)).1, [], (fun _ => 0), [], (⟨0, (fun _ => 0)⟩ : Lnk), ⟨#[]⟩⟩ : Ob) (bldVx (getM [] (bytesD 1024) (stO ys10 wr9)).1 st19) (.slice none 0 0) (.slice none 0 0)).cells ((b10, .cells #[.pointer (some ⟨s1, 0, none⟩), .bool wr22] 128 (0, 0)) :: (s1, .cells #[sv24] 180 (0, 0)) :: (b5, .cells (objV (⟨(oneM (stO b false)).1, (getM [] (bytesD 1024) (stO ys10 wr9)).1, [], (fun _ => 0), [], (⟨0, (fun _ => 0)⟩ : Lnk), ⟨#[]⟩⟩ : Ob) (bldVx (getM [] (bytesD 1024) (stO ys10 wr9)).1 st19) (.slice none 0 0) (.slice none 0 0)).cells 48 (0, 0)) :: (b6, .cells #[.func (.func 66) #[] #[.pointer (some ⟨b4, 0, none⟩)]] 131 (0, 0)) :: (b4, .cells #[.pointer (some ⟨b10, 0, none⟩)] 124 (0, 0)) :: (b2, .cells (objV (⟨(oneM (stO b false)).1, (getM [] (bytesD 1024) (stO ys10 wr9)).1, [], (fun _ => 0), [], (⟨0, (fun _ => 0)⟩ : Lnk), ⟨#[]⟩⟩ : Ob) (bldVx (getM [] (bytesD 1024) (stO ys10 wr9)).1 st19) (.slice none 0 0) (.slice none 0 0)).cells 48 (0, 0)) :: ((bldMx 5 (byteC) (getM [] (bytesD 1024) (stO ys10 wr9)).1 st19) ++ (HS3 ++ HX))) rfl Tryz.sizeOf48 trivial rfl rfl rfl (objV_one _ _ _ _ (bvx_one _ _) rfl rfl) rfl rfl rfl rfl (.inl hb2) ?_
      refine TE_q rfl rfl (RD.assign rfl) rfl ?_
      refine TE_nil0 ?_
      refine pn_ret ?_
      have hrd : readO (stO b false) = ((⟨(oneM (stO b false)).1, (getM [] (bytesD 1024) (stO ys10 wr9)).1, [], (fun _ => 0), [], (⟨0, (fun _ => 0)⟩ : Lnk), ⟨#[]⟩⟩ : Ob), stO ys23 wr22) := (by simp only [readO, if_pos hc17, hg14, hg27])
      exact pn_doneF rfl ⟨objV (⟨(oneM (stO b false)).1, (getM [] (bytesD 1024) (stO ys10 wr9)).1, [], (fun _ => 0), [], (⟨0, (fun _ => 0)⟩ : Lnk), ⟨#[]⟩⟩ : Ob) (bldVx (getM [] (bytesD 1024) (stO ys10 wr9)).1 st19) (.slice none 0 0) (.slice none 0 0), _, b2, 0, rfl, rfl, load_agg (i := 5) Tryz.isAgg48 Tryz.sizeOf48 rfl (Nat.le_of_ble_eq_true rfl) (obj_all _ _ _ _), ⟨_, _, rfl, rfl, rfl⟩⟩ (.inl ⟨(⟨(oneM (stO b false)).1, (getM [] (bytesD 1024) (stO ys10 wr9)).1, [], (fun _ => 0), [], (⟨0, (fun _ => 0)⟩ : Lnk), ⟨#[]⟩⟩ : Ob), st19, none, none, parse_ok hrd hc36, ok_k1 _ _, hbo20, (show BldOk 34 (entC) [] none from BldOk.nil), (show BldOk 32 (idC) [] none from BldOk.nil), rfl, (show ((bldMx 5 (byteC) (getM [] (bytesD 1024) (stO ys10 wr9)).1 st19) : Mem) = _ from by simp [bldMx])⟩) (fun _ h => h.sp (fun a => by simp -failIfUnchanged <;> omega)) (fun e he => Or.symm ((fun e he => hX21 e (List.mem_cons_of_mem _ (List.mem_cons_of_mem _ (List.mem_append_left _ he)))) e he))
  · refine pn_seq ?_
    refine pn_plain [] rfl ?_
    refine TE_q rfl rfl (RD.eql rfl rfl) rfl ?_
    refine TE_q rfl rfl (RD.assign rfl) rfl ?_
    refine TE_nil0 ?_
    refine pn_condD rfl (fun hc37 => ?_) (fun hc37 => ?_)
    · refine pn_plain [] rfl ?_
      refine TE_l rfl rfl trivial rfl (RD.load (i := 4) Tryz.isAgg124 rfl rfl rfl) rfl ?_
      refine TE_q rfl rfl (RD.makeFunc rfl rfl) rfl ?_
      refine TE_callM _ ((b10, .cells #[.pointer (some ⟨s1, 0, none⟩), .bool wr9] 128 (0, 0)) :: (s1, .cells #[sv11] 180 (0, 0)) :: HS3) ((b6, .cells #[.func (.func 66) #[] #[.pointer (some ⟨b4, 0, none⟩)]] 131 (0, 0)) :: (b5, .cells (objV (⟨(oneM (stO b false)).1, [], [], (fun _ => 0), [], (⟨0, (fun _ => 0)⟩ : Lnk), ⟨#[]⟩⟩ : Ob) (.slice none 0 0) (.slice none 0 0) (.slice none 0 0)).cells 48 (0, 0)) :: (b4, .cells #[.pointer (some ⟨b10, 0, none⟩)] 124 (0, 0)) :: (b2, .cells (objV (⟨0, [], [], (fun _ => 0), [], (⟨0, (fun _ => 0)⟩ : Lnk), ⟨#[]⟩⟩ : Ob) (.slice none 0 0) (.slice none 0 0) (.slice none 0 0)).cells 48 (0, 0)) :: HX) ((b6, .cells #[.func (.func 66) #[] #[.pointer (some ⟨b4, 0, none⟩)]] 131 (0, 0)) :: (b10, .cells #[.pointer (some ⟨s1, 0, none⟩), .bool wr9] 128 (0, 0)) :: (s1, .cells #[sv11] 180 (0, 0)) :: (b4, .cells #[.pointer (some ⟨b10, 0, none⟩)] 124 (0, 0)) :: HS3) rfl rfl trivial Tryz.call69 rfl rfl rfl (ownC (.inl hb10) (ownC (.inl (hX5 _ List.mem_cons_self)) (fun e he => hX8 e (List.mem_cons_of_mem _ (List.mem_cons_of_mem _ he))))) (fun a => by simp -failIfUnchanged <;> omega) (fun w hw => c_sevE b10 s1 sv11 ys10 wr9 32 b6 b4 HS3 w (hr12.mono (fun _ hw => hw.sp (fun a => by simp -failIfUnchanged <;> omega))) (by first | assumption | omega | (simp; done) | (simp; omega)) (by first | assumption | omega | (simp; done) | (simp; omega)) (hw.sp (fun a => by simp -failIfUnchanged <;> omega))) (fun a => by simp -failIfUnchanged <;> omega) ?_
      rintro v48 H49 ⟨wr42, ys43, sv44, st39, hr45, hrl46, hg47, hbo40, rfl, rfl⟩ hX41
      have hRD38 : Rdx 34 (entC) (bldMx 97 (entC) (sevM entM 32 (stO ys10 wr9)).1 st39) (bldVx (sevM entM 32 (stO ys10 wr9)).1 st39) (sevM entM 32 (stO ys10 wr9)).1 := hbo40.rdx (u := 97) entC_len
      refine TE_sp ((b10, .cells #[.pointer (some ⟨s1, 0, none⟩), .bool wr42] 128 (0, 0)) :: (s1, .cells #[sv44] 180 (0, 0)) :: (b6, .cells #[.func (.func 66) #[] #[.pointer (some ⟨b4, 0, none⟩)]] 131 (0, 0)) :: (b5, .cells (objV (⟨(oneM (stO b false)).1, [], [], (fun _ => 0), [], (⟨0, (fun _ => 0)⟩ : Lnk), ⟨#[]⟩⟩ : Ob) (.slice none 0 0) (.slice none 0 0) (.slice none 0 0)).cells 48 (0, 0)) :: (b4, .cells #[.pointer (some ⟨b10, 0, none⟩)] 124 (0, 0)) :: (b2, .cells (objV (⟨0, [], [], (fun _ => 0), [], (⟨0, (fun _ => 0)⟩ : Lnk), ⟨#[]⟩⟩ : Ob) (.slice none 0 0) (.slice none 0 0) (.slice none 0 0)).cells 48 (0, 0)) :: ((bldMx 97 (entC) (sevM entM 32 (stO ys10 wr9)).1 st39) ++ (HS3 ++ HX))) (fun a => by simp -failIfUnchanged <;> omega) ?_
      refine TE_q rfl rfl (RD.fieldAddr (o := 2) Tryz.runUnderlying48 rfl rfl Tryz.sizeOf43 rfl) rfl ?_
      refine TE_storeC 3 (objV (⟨(oneM (stO b false)).1, [], [], (fun _ => 0), [], (⟨0, (fun _ => 0)⟩ : Lnk), ⟨#[]⟩⟩ : Ob) (.slice none 0 0) (.slice none 0 0) (.slice none 0 0)).cells (objV (⟨(oneM (stO b false)).1, [], (sevM entM 32 (stO ys10 wr9)).1, (fun _ => 0), [], (⟨0, (fun _ => 0)⟩ : Lnk), ⟨#[]⟩⟩ : Ob) (.slice none 0 0) (bldVx (sevM entM 32 (stO ys10 wr9)).1 st39) (.slice none 0 0)).cells ((b10, .cells #[.pointer (some ⟨s1, 0, none⟩), .bool wr42] 128 (0, 0)) :: (s1, .cells #[sv44] 180 (0, 0)) :: (b6, .cells #[.func (.func 66) #[] #[.pointer (some ⟨b4, 0, none⟩)]] 131 (0, 0)) :: (b5, .cells (objV (⟨(oneM (stO b false)).1, [], (sevM entM 32 (stO ys10 wr9)).1, (fun _ => 0), [], (⟨0, (fun _ => 0)⟩ : Lnk), ⟨#[]⟩⟩ : Ob) (.slice none 0 0) (bldVx (sevM entM 32 (stO ys10 wr9)).1 st39) (.slice none 0 0)).cells 48 (0, 0)) :: (b4, .cells #[.pointer (some ⟨b10, 0, none⟩)] 124 (0, 0)) :: (b2, .cells (objV (⟨0, [], [], (fun _ => 0), [], (⟨0, (fun _ => 0)⟩ : Lnk), ⟨#[]⟩⟩ : Ob) (.slice none 0 0) (.slice none 0 0) (.slice none 0 0)).cells 48 (0, 0)) :: ((bldMx 97 (entC) (sevM entM 32 (stO ys10 wr9)).1 st39) ++ (HS3 ++ HX))) rfl Tryz.sizeOf43 trivial rfl rfl (bvx_cells _ _) (bvx_one _ _) rfl rfl (put_obj_ents _ _ _ _ _ _) rfl (.inl hb5) ?_
      refine TE_nil0 ?_
      refine pn_seq ?_
      refine pn_seq ?_
      refine pn_plain [] rfl ?_
      refine TE_l rfl rfl trivial rfl (RD.load (i := 4) Tryz.isAgg124 rfl rfl rfl) rfl ?_
      refine TE_q rfl rfl (RD.nilCheckP rfl) rfl ?_
      refine TE_q rfl rfl (RD.fieldAddr (o := 1) Tryz.runUnderlying128 rfl rfl Tryz.sizeOf4 rfl) rfl ?_
      refine TE_l rfl rfl trivial rfl (RD.load (i := 0) Tryz.isAgg4 rfl rfl rfl) rfl ?_
      refine TE_q rfl rfl (RD.move rfl) rfl ?_
      refine TE_join (σ := Unit) (fun _ => [(2, .pointer (some ⟨b2, 0, none⟩)), (5, .pointer (some ⟨b5, 0, none⟩)), (75, .bool (wr42 || ((decide (0 < (ys43.length : Int))) || (!decide ((err (obOkB (⟨(oneM (stO b false)).1, [], (sevM entM 32 (stO ys10 wr9)).1, (fun _ => 0), [], (⟨0, (fun _ => 0)⟩ : Lnk), ⟨#[]⟩⟩ : Ob)) 70) = 0)))))]) (fun _ => ((b10, .cells #[.pointer (some ⟨s1, 0, none⟩), .bool wr42] 128 (0, 0)) :: (s1, .cells #[sv44] 180 (0, 0)) :: (b6, .cells #[.func (.func 66) #[] #[.pointer (some ⟨b4, 0, none⟩)]] 131 (0, 0)) :: (b5, .cells (objV (⟨(oneM (stO b false)).1, [], (sevM entM 32 (stO ys10 wr9)).1, (fun _ => 0), [], (⟨0, (fun _ => 0)⟩ : Lnk), ⟨#[]⟩⟩ : Ob) (.slice none 0 0) (bldVx (sevM entM 32 (stO ys10 wr9)).1 st39) (.slice none 0 0)).cells 48 (0, 0)) :: (b4, .cells #[.pointer (some ⟨b10, 0, none⟩)] 124 (0, 0)) :: (b2, .cells (objV (⟨0, [], [], (fun _ => 0), [], (⟨0, (fun _ => 0)⟩ : Lnk), ⟨#[]⟩⟩ : Ob) (.slice none 0 0) (.slice none 0 0) (.slice none 0 0)).cells 48 (0, 0)) :: ((bldMx 97 (entC) (sevM entM 32 (stO ys10 wr9)).1 st39) ++ (HS3 ++ HX)))) (fun _ => True) ?_ ?_
      · refine TE_bool (fun hf50 => ?_) (fun hf50 => ?_)
        · refine TE_s rfl rfl rfl rfl rfl ?_
          refine TE_s rfl rfl rfl rfl rfl ?_
          refine TE_s rfl rfl rfl rfl rfl ?_
          refine TE_s rfl rfl rfl rfl rfl ?_
          refine TE_s rfl rfl rfl rfl rfl ?_
          refine TE_s rfl rfl rfl rfl rfl ?_
          refine TE_q rfl rfl (RD.pickT rfl rfl) rfl ?_
          refine TE_q rfl rfl (RD.move rfl) rfl ?_
          refine TE_s rfl rfl rfl rfl rfl ?_
          refine TE_s rfl rfl rfl rfl rfl ?_
          refine TE_s rfl rfl rfl rfl rfl ?_
          refine TE_q rfl rfl (RD.pickT rfl rfl) rfl ?_
          refine TE_nil0 ?_
          exact pn_give () trivial ⟨rfl, rfl, congrArg (fun b => some (Value.bool b)) (by first | (simp [hf50]; done) | (simp only [hf50]; rfl) | (simp only [hf50]; simp; done)), trivial⟩ (fun _ hw => hw.sp (fun a => by simp -failIfUnchanged <;> omega))
        · refine TE_l rfl rfl ⟨_, rfl, rfl⟩ rfl (RD.load (i := 4) Tryz.isAgg124 rfl rfl rfl) rfl ?_
          refine TE_gq rfl rfl rfl rfl (RD.nilCheckP rfl) rfl ?_
          refine TE_gq rfl rfl rfl rfl (RD.fieldAddr (o := 0) Tryz.runUnderlying128 rfl rfl Tryz.sizeOf125 rfl) rfl ?_
          refine TE_l rfl rfl ⟨_, rfl, rfl⟩ rfl (RD.load (i := 0) Tryz.isAgg125 rfl rfl rfl) rfl ?_
          refine TE_callG _ ((s1, .cells #[sv44] 180 (0, 0)) :: HS3) rfl rfl ⟨_, rfl, rfl⟩ Tryz.call73 rfl rfl rfl (fun w hw => c_leftC HS3 s1 sv44 ys43 w (hr45.mono (fun _ hw => hw.sp (fun a => by simp -failIfUnchanged <;> omega))) (hw.sp (fun a => by simp -failIfUnchanged <;> omega))) (fun a => by simp -failIfUnchanged <;> omega) ?_
          rintro v51 H52 ⟨rfl, rfl⟩ -
          refine TE_gq rfl rfl rfl rfl (RD.gtr rfl rfl) rfl ?_
          refine TE_q rfl rfl (RD.pickF rfl rfl) rfl ?_
          refine TE_q rfl rfl (RD.move rfl) rfl ?_
          refine TE_dec (fun hf53 => ?_) (fun hf53 => ?_)
          · refine TE_s rfl rfl rfl rfl rfl ?_
            refine TE_s rfl rfl rfl rfl rfl ?_
            refine TE_s rfl rfl rfl rfl rfl ?_
            refine TE_q rfl rfl (RD.pickT rfl rfl) rfl ?_
            refine TE_nil0 ?_
            exact pn_give () trivial ⟨rfl, rfl, congrArg (fun b => some (Value.bool b)) (by first | (simp [hf50, hf53]; done) | (simp only [hf50, decide_eq_true hf53]; rfl) | (simp only [hf50, decide_eq_true hf53]; simp; done)), trivial⟩ (fun _ hw => hw.sp (fun a => by simp -failIfUnchanged <;> omega))
          · refine TE_l rfl rfl ⟨_, rfl, rfl⟩ rfl (RD.loadA (i := 3) Tryz.isAgg48 Tryz.sizeOf48 rfl rfl (Nat.le_of_ble_eq_true rfl) (obj_all _ _ _ _)) rfl ?_
            refine TE_callG _ (bldMx 97 (entC) (sevM entM 32 (stO ys10 wr9)).1 st39) rfl rfl ⟨_, rfl, rfl⟩ Tryz.call33 rfl rfl rfl (fun w hw => c_obCheck (⟨(oneM (stO b false)).1, [], (sevM entM 32 (stO ys10 wr9)).1, (fun _ => 0), [], (⟨0, (fun _ => 0)⟩ : Lnk), ⟨#[]⟩⟩ : Ob) (.slice none 0 0) (bldVx (sevM entM 32 (stO ys10 wr9)).1 st39) (.slice none 0 0) (bldMx 97 (entC) (sevM entM 32 (stO ys10 wr9)).1 st39) w (.inl ⟨rfl, rfl⟩) (hRD38.mono (fun _ hw => hw.sp (fun a => by simp -failIfUnchanged <;> omega))) Rdx.nil (ok_k2 _ _) (hw.sp (fun a => by simp -failIfUnchanged <;> omega))) (fun a => by simp -failIfUnchanged <;> omega) ?_
            rintro v54 H55 ⟨rfl, rfl⟩ -
            refine TE_gq rfl rfl rfl rfl (RD.neq rfl rfl) rfl ?_
            refine TE_q rfl rfl (RD.pickF rfl rfl) rfl ?_
            refine TE_nil0 ?_
            exact pn_give () trivial ⟨rfl, rfl, congrArg (fun b => some (Value.bool b)) (by first | (simp [hf50, hf53]; done) | (simp only [hf50, decide_eq_false hf53]; rfl) | (simp only [hf50, decide_eq_false hf53]; simp; done)), trivial⟩ (fun _ hw => hw.sp (fun a => by simp -failIfUnchanged <;> omega))
      rintro _ -
      refine pn_cond rfl (fun hc56 => ?_) (fun hc56 => ?_)
      · simp only [Bool.not_eq_true', Bool.or_eq_true, decide_eq_false_iff_not, decide_eq_true_eq] at hc56
        refine pn_seq ?_
        refine pn_plain [] rfl ?_
        refine TE_q rfl rfl (RD.build (v := objV (⟨0, [], [], (fun _ => 0), [], (⟨0, (fun _ => 0)⟩ : Lnk), ⟨#[]⟩⟩ : Ob) (.slice none 0 0) (.slice none 0 0) (.slice none 0 0)) rfl (fun w => by kernel_rfl)) rfl ?_
        refine TE_putCW 5 (objV (⟨0, [], [], (fun _ => 0), [], (⟨0, (fun _ => 0)⟩ : Lnk), ⟨#[]⟩⟩ : Ob) (.slice none 0 0) (.slice none 0 0) (.slice none 0 0)).cells (objV (⟨0, [], [], (fun _ => 0), [], (⟨0, (fun _ => 0)⟩ : Lnk), ⟨#[]⟩⟩ : Ob) (.slice none 0 0) (.slice none 0 0) (.slice none 0 0)).cells ((b10, .cells #[.pointer (some ⟨s1, 0, none⟩), .bool wr42] 128 (0, 0)) :: (s1, .cells #[sv44] 180 (0, 0)) :: (b6, .cells #[.func (.func 66) #[] #[.pointer (some ⟨b4, 0, none⟩)]] 131 (0, 0)) :: (b5, .cells (objV (⟨(oneM (stO b false)).1, [], (sevM entM 32 (stO ys10 wr9)).1, (fun _ => 0), [], (⟨0, (fun _ => 0)⟩ : Lnk), ⟨#[]⟩⟩ : Ob) (.slice none 0 0) (bldVx (sevM entM 32 (stO ys10 wr9)).1 st39) (.slice none 0 0)).cells 48 (0, 0)) :: (b4, .cells #[.pointer (some ⟨b10, 0, none⟩)] 124 (0, 0)) :: (b2, .cells (objV (⟨0, [], [], (fun _ => 0), [], (⟨0, (fun _ => 0)⟩ : Lnk), ⟨#[]⟩⟩ : Ob) (.slice none 0 0) (.slice none 0 0) (.slice none 0 0)).cells 48 (0, 0)) :: ((bldMx 97 (entC) (sevM entM 32 (stO ys10 wr9)).1 st39) ++ (HS3 ++ HX))) rfl Tryz.sizeOf48 trivial rfl rfl rfl (objV_one _ _ _ _ rfl rfl rfl) rfl rfl rfl rfl (.inl hb2) ?_
        refine TE_q rfl rfl (RD.assign rfl) rfl ?_
        refine TE_nil0 ?_
        refine pn_ret ?_
        have hrd : readO (stO b false) = ((⟨(oneM (stO b false)).1, [], (sevM entM 32 (stO ys10 wr9)).1, (fun _ => 0), [], (⟨0, (fun _ => 0)⟩ : Lnk), ⟨#[]⟩⟩ : Ob), stO ys43 wr42) := (by simp only [readO, if_neg hc17, if_pos hc37, hg14, hg47])
        exact pn_doneF rfl ⟨objV (⟨0, [], [], (fun _ => 0), [], (⟨0, (fun _ => 0)⟩ : Lnk), ⟨#[]⟩⟩ : Ob) (.slice none 0 0) (.slice none 0 0) (.slice none 0 0), _, b2, 0, rfl, rfl, load_agg (i := 5) Tryz.isAgg48 Tryz.sizeOf48 rfl (Nat.le_of_ble_eq_true rfl) (obj_all _ _ _ _), ⟨_, _, rfl, rfl, rfl⟩⟩ (.inr ⟨parse_no hrd hc56, rfl, rfl⟩) (fun _ h => h.sp (fun _ => Nat.zero_le _)) (fun _ he => nomatch he)
      · simp only [Bool.not_eq_false', Bool.or_eq_false_iff, decide_eq_false_iff_not, decide_eq_true_eq] at hc56
        refine pn_skip ?_
        refine pn_seq ?_
        refine pn_plain [] rfl ?_
        refine TE_l rfl rfl trivial rfl (RD.loadA (i := 3) Tryz.isAgg48 Tryz.sizeOf48 rfl rfl (Nat.le_of_ble_eq_true rfl) (obj_all _ _ _ _)) rfl ?_
        refine TE_putCW 5 (objV (⟨0, [], [], (fun _ => 0), [], (⟨0, (fun _ => 0)⟩ : Lnk), ⟨#[]⟩⟩ : Ob) (.slice none 0 0) (.slice none 0 0) (.slice none 0 0)).cells (objV (⟨(oneM (stO b false)).1, [], (sevM entM 32 (stO ys10 wr9)).1, (fun _ => 0), [], (⟨0, (fun _ => 0)⟩ : Lnk), ⟨#[]⟩⟩ : Ob) (.slice none 0 0) (bldVx (sevM entM 32 (stO ys10 wr9)).1 st39) (.slice none 0 0)).cells ((b10, .cells #[.pointer (some ⟨s1, 0, none⟩), .bool wr42] 128 (0, 0)) :: (s1, .cells #[sv44] 180 (0, 0)) :: (b6, .cells #[.func (.func 66) #[] #[.pointer (some ⟨b4, 0, none⟩)]] 131 (0, 0)) :: (b5, .cells (objV (⟨(oneM (stO b false)).1, [], (sevM entM 32 (stO ys10 wr9)).1, (fun _ => 0), [], (⟨0, (fun _ => 0)⟩ : Lnk), ⟨#[]⟩⟩ : Ob) (.slice none 0 0) (bldVx (sevM entM 32 (stO ys10 wr9)).1 st39) (.slice none 0 0)).cells 48 (0, 0)) :: (b4, .cells #[.pointer (some ⟨b10, 0, none⟩)] 124 (0, 0)) :: (b2, .cells (objV (⟨(oneM (stO b false)).1, [], (sevM entM 32 (stO ys10 wr9)).1, (fun _ => 0), [], (⟨0, (fun _ => 0)⟩ : Lnk), ⟨#[]⟩⟩ : Ob) (.slice none 0 0) (bldVx (sevM entM 32 (stO ys10 wr9)).1 st39) (.slice none 0 0)).cells 48 (0, 0)) :: ((bldMx 97 (entC) (sevM entM 32 (stO ys10 wr9)).1 st39) ++ (HS3 ++ HX))) rfl Tryz.sizeOf48 trivial rfl rfl rfl (objV_one _ _ _ _ rfl (bvx_one _ _) rfl) rfl rfl rfl rfl (.inl hb2) ?_
        refine TE_q rfl rfl (RD.assign rfl) rfl ?_
        refine TE_nil0 ?_
        refine pn_ret ?_
        have hrd : readO (stO b false) = ((⟨(oneM (stO b false)).1, [], (sevM entM 32 (stO ys10 wr9)).1, (fun _ => 0), [], (⟨0, (fun _ => 0)⟩ : Lnk), ⟨#[]⟩⟩ : Ob), stO ys43 wr42) := (by simp only [readO, if_neg hc17, if_pos hc37, hg14, hg47])
        exact pn_doneF rfl ⟨objV (⟨(oneM (stO b false)).1, [], (sevM entM 32 (stO ys10 wr9)).1, (fun _ => 0), [], (⟨0, (fun _ => 0)⟩ : Lnk), ⟨#[]⟩⟩ : Ob) (.slice none 0 0) (bldVx (sevM entM 32 (stO ys10 wr9)).1 st39) (.slice none 0 0), _, b2, 0, rfl, rfl, load_agg (i := 5) Tryz.isAgg48 Tryz.sizeOf48 rfl (Nat.le_of_ble_eq_true rfl) (obj_all _ _ _ _), ⟨_, _, rfl, rfl, rfl⟩⟩ (.inl ⟨(⟨(oneM (stO b false)).1, [], (sevM entM 32 (stO ys10 wr9)).1, (fun _ => 0), [], (⟨0, (fun _ => 0)⟩ : Lnk), ⟨#[]⟩⟩ : Ob), none, st39, none, parse_ok hrd hc56, ok_k2 _ _, (show BldOk 1 (byteC) [] none from BldOk.nil), hbo40, (show BldOk 32 (idC) [] none from BldOk.nil), rfl, (show ((bldMx 97 (entC) (sevM entM 32 (stO ys10 wr9)).1 st39) : Mem) = _ from by simp [bldMx])⟩) (fun _ h => h.sp (fun a => by simp -failIfUnchanged <;> omega)) (fun e he => Or.symm ((fun e he => hX41 e (List.mem_cons_of_mem _ (List.mem_cons_of_mem _ (List.mem_append_left _ he)))) e he))
    · refine pn_seq ?_
      refine pn_plain [] rfl ?_
      refine TE_q rfl rfl (RD.eql rfl rfl) rfl ?_
      refine TE_q rfl rfl (RD.assign rfl) rfl ?_
      refine TE_nil0 ?_
      refine pn_condD rfl (fun hc57 => ?_) (fun hc57 => ?_)
      · refine pn_seq ?_
        refine pn_plain [] rfl ?_
        refine TE_l rfl rfl trivial rfl (RD.load (i := 4) Tryz.isAgg124 rfl rfl rfl) rfl ?_
        refine TE_callM _ ((b10, .cells #[.pointer (some ⟨s1, 0, none⟩), .bool wr9] 128 (0, 0)) :: (s1, .cells #[sv11] 180 (0, 0)) :: HS3) ((b6, .cells #[.func (.func 66) #[] #[.pointer (some ⟨b4, 0, none⟩)]] 131 (0, 0)) :: (b5, .cells (objV (⟨(oneM (stO b false)).1, [], [], (fun _ => 0), [], (⟨0, (fun _ => 0)⟩ : Lnk), ⟨#[]⟩⟩ : Ob) (.slice none 0 0) (.slice none 0 0) (.slice none 0 0)).cells 48 (0, 0)) :: (b4, .cells #[.pointer (some ⟨b10, 0, none⟩)] 124 (0, 0)) :: (b2, .cells (objV (⟨0, [], [], (fun _ => 0), [], (⟨0, (fun _ => 0)⟩ : Lnk), ⟨#[]⟩⟩ : Ob) (.slice none 0 0) (.slice none 0 0) (.slice none 0 0)).cells 48 (0, 0)) :: HX) ((b10, .cells #[.pointer (some ⟨s1, 0, none⟩), .bool wr9] 128 (0, 0)) :: (s1, .cells #[sv11] 180 (0, 0)) :: HS3) rfl rfl trivial Tryz.call71 rfl rfl rfl (ownC (.inl hb10) (ownC (.inl (hX5 _ List.mem_cons_self)) (fun e he => hX8 e (List.mem_cons_of_mem _ (List.mem_cons_of_mem _ he))))) (fun a => by simp -failIfUnchanged <;> omega) (fun w hw => c_rdId b10 s1 sv11 ys10 wr9 HS3 w (hr12.mono (fun _ hw => hw.sp (fun a => by simp -failIfUnchanged <;> omega))) (by first | assumption | omega | (simp; done) | (simp; omega)) (hw.sp (fun a => by simp -failIfUnchanged <;> omega))) (fun a => by simp -failIfUnchanged <;> omega) ?_
        rintro v65 H66 ⟨wr59, ys60, sv61, hr62, hrl63, hg64, rfl, rfl⟩ hX58
        refine TE_sp ((b10, .cells #[.pointer (some ⟨s1, 0, none⟩), .bool wr59] 128 (0, 0)) :: (s1, .cells #[sv61] 180 (0, 0)) :: (b6, .cells #[.func (.func 66) #[] #[.pointer (some ⟨b4, 0, none⟩)]] 131 (0, 0)) :: (b5, .cells (objV (⟨(oneM (stO b false)).1, [], [], (fun _ => 0), [], (⟨0, (fun _ => 0)⟩ : Lnk), ⟨#[]⟩⟩ : Ob) (.slice none 0 0) (.slice none 0 0) (.slice none 0 0)).cells 48 (0, 0)) :: (b4, .cells #[.pointer (some ⟨b10, 0, none⟩)] 124 (0, 0)) :: (b2, .cells (objV (⟨0, [], [], (fun _ => 0), [], (⟨0, (fun _ => 0)⟩ : Lnk), ⟨#[]⟩⟩ : Ob) (.slice none 0 0) (.slice none 0 0) (.slice none 0 0)).cells 48 (0, 0)) :: (HS3 ++ HX)) (fun a => by simp -failIfUnchanged <;> omega) ?_
        refine TE_q rfl rfl (RD.fieldAddr (o := 3) Tryz.runUnderlying48 rfl rfl Tryz.sizeOf36 rfl) rfl ?_
        refine TE_putC 3 (objV (⟨(oneM (stO b false)).1, [], [], (fun _ => 0), [], (⟨0, (fun _ => 0)⟩ : Lnk), ⟨#[]⟩⟩ : Ob) (.slice none 0 0) (.slice none 0 0) (.slice none 0 0)).cells (objV (⟨(oneM (stO b false)).1, [], [], (idM (stO ys10 wr9)).1, [], (⟨0, (fun _ => 0)⟩ : Lnk), ⟨#[]⟩⟩ : Ob) (.slice none 0 0) (.slice none 0 0) (.slice none 0 0)).cells ((b10, .cells #[.pointer (some ⟨s1, 0, none⟩), .bool wr59] 128 (0, 0)) :: (s1, .cells #[sv61] 180 (0, 0)) :: (b6, .cells #[.func (.func 66) #[] #[.pointer (some ⟨b4, 0, none⟩)]] 131 (0, 0)) :: (b5, .cells (objV (⟨(oneM (stO b false)).1, [], [], (idM (stO ys10 wr9)).1, [], (⟨0, (fun _ => 0)⟩ : Lnk), ⟨#[]⟩⟩ : Ob) (.slice none 0 0) (.slice none 0 0) (.slice none 0 0)).cells 48 (0, 0)) :: (b4, .cells #[.pointer (some ⟨b10, 0, none⟩)] 124 (0, 0)) :: (b2, .cells (objV (⟨0, [], [], (fun _ => 0), [], (⟨0, (fun _ => 0)⟩ : Lnk), ⟨#[]⟩⟩ : Ob) (.slice none 0 0) (.slice none 0 0) (.slice none 0 0)).cells 48 (0, 0)) :: (HS3 ++ HX)) rfl Tryz.sizeOf36 trivial rfl rfl rfl rfl rfl rfl (put_obj_t _ _ _ _ _) rfl (.inl hb5) ?_
        refine TE_nil0 ?_
        refine pn_seq ?_
        refine pn_plain [] rfl ?_
        refine TE_l rfl rfl trivial rfl (RD.load (i := 4) Tryz.isAgg124 rfl rfl rfl) rfl ?_
        refine TE_l rfl rfl trivial rfl (RD.load (i := 4) Tryz.isAgg124 rfl rfl rfl) rfl ?_
        refine TE_q rfl rfl (RD.makeFunc rfl rfl) rfl ?_
        refine TE_callM _ ((b10, .cells #[.pointer (some ⟨s1, 0, none⟩), .bool wr59] 128 (0, 0)) :: (s1, .cells #[sv61] 180 (0, 0)) :: HS3) ((b6, .cells #[.func (.func 66) #[] #[.pointer (some ⟨b4, 0, none⟩)]] 131 (0, 0)) :: (b5, .cells (objV (⟨(oneM (stO b false)).1, [], [], (idM (stO ys10 wr9)).1, [], (⟨0, (fun _ => 0)⟩ : Lnk), ⟨#[]⟩⟩ : Ob) (.slice none 0 0) (.slice none 0 0) (.slice none 0 0)).cells 48 (0, 0)) :: (b4, .cells #[.pointer (some ⟨b10, 0, none⟩)] 124 (0, 0)) :: (b2, .cells (objV (⟨0, [], [], (fun _ => 0), [], (⟨0, (fun _ => 0)⟩ : Lnk), ⟨#[]⟩⟩ : Ob) (.slice none 0 0) (.slice none 0 0) (.slice none 0 0)).cells 48 (0, 0)) :: HX) ((b10, .cells #[.pointer (some ⟨s1, 0, none⟩), .bool wr59] 128 (0, 0)) :: (s1, .cells #[sv61] 180 (0, 0)) :: HS3) rfl rfl trivial Tryz.call72 rfl rfl rfl (ownC (.inl hb10) (ownC (.inl (hX5 _ List.mem_cons_self)) (fun e he => hX58 e (List.mem_cons_of_mem _ (List.mem_cons_of_mem _ he))))) (fun a => by simp -failIfUnchanged <;> omega) (fun w hw => c_sevI b10 s1 sv61 ys60 wr59 4 HS3 w (hr62.mono (fun _ hw => hw.sp (fun a => by simp -failIfUnchanged <;> omega))) (by first | assumption | omega | (simp; done) | (simp; omega)) (by first | assumption | omega | (simp; done) | (simp; omega)) (hw.sp (fun a => by simp -failIfUnchanged <;> omega))) (fun a => by simp -failIfUnchanged <;> omega) ?_
        rintro v77 H78 ⟨wr71, ys72, sv73, st68, hr74, hrl75, hg76, hbo69, rfl, rfl⟩ hX70
        have hRD67 : Rdx 32 (idC) (bldMx 36 (idC) (sevM idM 4 (stO ys60 wr59)).1 st68) (bldVx (sevM idM 4 (stO ys60 wr59)).1 st68) (sevM idM 4 (stO ys60 wr59)).1 := hbo69.rdx (u := 36) idC_len
        refine TE_sp ((b10, .cells #[.pointer (some ⟨s1, 0, none⟩), .bool wr71] 128 (0, 0)) :: (s1, .cells #[sv73] 180 (0, 0)) :: (b6, .cells #[.func (.func 66) #[] #[.pointer (some ⟨b4, 0, none⟩)]] 131 (0, 0)) :: (b5, .cells (objV (⟨(oneM (stO b false)).1, [], [], (idM (stO ys10 wr9)).1, [], (⟨0, (fun _ => 0)⟩ : Lnk), ⟨#[]⟩⟩ : Ob) (.slice none 0 0) (.slice none 0 0) (.slice none 0 0)).cells 48 (0, 0)) :: (b4, .cells #[.pointer (some ⟨b10, 0, none⟩)] 124 (0, 0)) :: (b2, .cells (objV (⟨0, [], [], (fun _ => 0), [], (⟨0, (fun _ => 0)⟩ : Lnk), ⟨#[]⟩⟩ : Ob) (.slice none 0 0) (.slice none 0 0) (.slice none 0 0)).cells 48 (0, 0)) :: ((bldMx 36 (idC) (sevM idM 4 (stO ys60 wr59)).1 st68) ++ (HS3 ++ HX))) (fun a => by simp -failIfUnchanged <;> omega) ?_
        refine TE_q rfl rfl (RD.fieldAddr (o := 35) Tryz.runUnderlying48 rfl rfl Tryz.sizeOf44 rfl) rfl ?_
        refine TE_storeC 3 (objV (⟨(oneM (stO b false)).1, [], [], (idM (stO ys10 wr9)).1, [], (⟨0, (fun _ => 0)⟩ : Lnk), ⟨#[]⟩⟩ : Ob) (.slice none 0 0) (.slice none 0 0) (.slice none 0 0)).cells (objV (⟨(oneM (stO b false)).1, [], [], (idM (stO ys10 wr9)).1, (sevM idM 4 (stO ys60 wr59)).1, (⟨0, (fun _ => 0)⟩ : Lnk), ⟨#[]⟩⟩ : Ob) (.slice none 0 0) (.slice none 0 0) (bldVx (sevM idM 4 (stO ys60 wr59)).1 st68)).cells ((b10, .cells #[.pointer (some ⟨s1, 0, none⟩), .bool wr71] 128 (0, 0)) :: (s1, .cells #[sv73] 180 (0, 0)) :: (b6, .cells #[.func (.func 66) #[] #[.pointer (some ⟨b4, 0, none⟩)]] 131 (0, 0)) :: (b5, .cells (objV (⟨(oneM (stO b false)).1, [], [], (idM (stO ys10 wr9)).1, (sevM idM 4 (stO ys60 wr59)).1, (⟨0, (fun _ => 0)⟩ : Lnk), ⟨#[]⟩⟩ : Ob) (.slice none 0 0) (.slice none 0 0) (bldVx (sevM idM 4 (stO ys60 wr59)).1 st68)).cells 48 (0, 0)) :: (b4, .cells #[.pointer (some ⟨b10, 0, none⟩)] 124 (0, 0)) :: (b2, .cells (objV (⟨0, [], [], (fun _ => 0), [], (⟨0, (fun _ => 0)⟩ : Lnk), ⟨#[]⟩⟩ : Ob) (.slice none 0 0) (.slice none 0 0) (.slice none 0 0)).cells 48 (0, 0)) :: ((bldMx 36 (idC) (sevM idM 4 (stO ys60 wr59)).1 st68) ++ (HS3 ++ HX))) rfl Tryz.sizeOf44 trivial rfl rfl (bvx_cells _ _) (bvx_one _ _) rfl rfl (put_obj_pars _ _ _ _ _ _) rfl (.inl hb5) ?_
        refine TE_nil0 ?_
        refine pn_plain [] rfl ?_
        refine TE_l rfl rfl trivial rfl (RD.load (i := 2) Tryz.isAgg131 rfl rfl rfl) rfl ?_
        refine TE_callM _ ((b10, .cells #[.pointer (some ⟨s1, 0, none⟩), .bool wr71] 128 (0, 0)) :: (s1, .cells #[sv73] 180 (0, 0)) :: HS3) ((b6, .cells #[.func (.func 66) #[] #[.pointer (some ⟨b4, 0, none⟩)]] 131 (0, 0)) :: (b5, .cells (objV (⟨(oneM (stO b false)).1, [], [], (idM (stO ys10 wr9)).1, (sevM idM 4 (stO ys60 wr59)).1, (⟨0, (fun _ => 0)⟩ : Lnk), ⟨#[]⟩⟩ : Ob) (.slice none 0 0) (.slice none 0 0) (bldVx (sevM idM 4 (stO ys60 wr59)).1 st68)).cells 48 (0, 0)) :: (b4, .cells #[.pointer (some ⟨b10, 0, none⟩)] 124 (0, 0)) :: (b2, .cells (objV (⟨0, [], [], (fun _ => 0), [], (⟨0, (fun _ => 0)⟩ : Lnk), ⟨#[]⟩⟩ : Ob) (.slice none 0 0) (.slice none 0 0) (.slice none 0 0)).cells 48 (0, 0)) :: ((bldMx 36 (idC) (sevM idM 4 (stO ys60 wr59)).1 st68) ++ HX)) ((b10, .cells #[.pointer (some ⟨s1, 0, none⟩), .bool wr71] 128 (0, 0)) :: (s1, .cells #[sv73] 180 (0, 0)) :: (b4, .cells #[.pointer (some ⟨b10, 0, none⟩)] 124 (0, 0)) :: HS3) rfl rfl trivial Tryz.call66 rfl rfl rfl (ownC (.inl hb10) (ownC (.inl (hX5 _ List.mem_cons_self)) (fun e he => hX70 e (List.mem_cons_of_mem _ (List.mem_cons_of_mem _ (List.mem_append_right _ he)))))) (fun a => by simp -failIfUnchanged <;> omega) (fun w hw => c_text b4 b10 s1 sv73 ys72 wr71 HS3 w (hr74.mono (fun _ hw => hw.sp (fun a => by simp -failIfUnchanged <;> omega))) (by first | assumption | omega | (simp; done) | (simp; omega)) (hw.sp (fun a => by simp -failIfUnchanged <;> omega))) (fun a => by simp -failIfUnchanged <;> omega) ?_
        rintro v86 H87 ⟨wr80, ys81, sv82, hr83, hrl84, hg85, rfl, rfl⟩ hX79
        refine TE_sp ((b10, .cells #[.pointer (some ⟨s1, 0, none⟩), .bool wr80] 128 (0, 0)) :: (s1, .cells #[sv82] 180 (0, 0)) :: (b6, .cells #[.func (.func 66) #[] #[.pointer (some ⟨b4, 0, none⟩)]] 131 (0, 0)) :: (b5, .cells (objV (⟨(oneM (stO b false)).1, [], [], (idM (stO ys10 wr9)).1, (sevM idM 4 (stO ys60 wr59)).1, (⟨0, (fun _ => 0)⟩ : Lnk), ⟨#[]⟩⟩ : Ob) (.slice none 0 0) (.slice none 0 0) (bldVx (sevM idM 4 (stO ys60 wr59)).1 st68)).cells 48 (0, 0)) :: (b4, .cells #[.pointer (some ⟨b10, 0, none⟩)] 124 (0, 0)) :: (b2, .cells (objV (⟨0, [], [], (fun _ => 0), [], (⟨0, (fun _ => 0)⟩ : Lnk), ⟨#[]⟩⟩ : Ob) (.slice none 0 0) (.slice none 0 0) (.slice none 0 0)).cells 48 (0, 0)) :: (HS3 ++ ((bldMx 36 (idC) (sevM idM 4 (stO ys60 wr59)).1 st68) ++ HX))) (fun a => by simp -failIfUnchanged <;> omega) ?_
        refine TE_q rfl rfl (RD.fieldAddr (o := 69) Tryz.runUnderlying48 rfl rfl Tryz.sizeOf9 rfl) rfl ?_
        refine TE_storeC 3 (objV (⟨(oneM (stO b false)).1, [], [], (idM (stO ys10 wr9)).1, (sevM idM 4 (stO ys60 wr59)).1, (⟨0, (fun _ => 0)⟩ : Lnk), ⟨#[]⟩⟩ : Ob) (.slice none 0 0) (.slice none 0 0) (bldVx (sevM idM 4 (stO ys60 wr59)).1 st68)).cells (objV (⟨(oneM (stO b false)).1, [], [], (idM (stO ys10 wr9)).1, (sevM idM 4 (stO ys60 wr59)).1, (⟨0, (fun _ => 0)⟩ : Lnk), (textM (stO ys72 wr71)).1⟩ : Ob) (.slice none 0 0) (.slice none 0 0) (bldVx (sevM idM 4 (stO ys60 wr59)).1 st68)).cells ((b10, .cells #[.pointer (some ⟨s1, 0, none⟩), .bool wr80] 128 (0, 0)) :: (s1, .cells #[sv82] 180 (0, 0)) :: (b6, .cells #[.func (.func 66) #[] #[.pointer (some ⟨b4, 0, none⟩)]] 131 (0, 0)) :: (b5, .cells (objV (⟨(oneM (stO b false)).1, [], [], (idM (stO ys10 wr9)).1, (sevM idM 4 (stO ys60 wr59)).1, (⟨0, (fun _ => 0)⟩ : Lnk), (textM (stO ys72 wr71)).1⟩ : Ob) (.slice none 0 0) (.slice none 0 0) (bldVx (sevM idM 4 (stO ys60 wr59)).1 st68)).cells 48 (0, 0)) :: (b4, .cells #[.pointer (some ⟨b10, 0, none⟩)] 124 (0, 0)) :: (b2, .cells (objV (⟨0, [], [], (fun _ => 0), [], (⟨0, (fun _ => 0)⟩ : Lnk), ⟨#[]⟩⟩ : Ob) (.slice none 0 0) (.slice none 0 0) (.slice none 0 0)).cells 48 (0, 0)) :: (HS3 ++ ((bldMx 36 (idC) (sevM idM 4 (stO ys60 wr59)).1 st68) ++ HX))) rfl Tryz.sizeOf9 trivial rfl rfl rfl rfl rfl rfl (put_obj_m _ _ _ _ _) rfl (.inl hb5) ?_
        refine TE_nil0 ?_
        refine pn_seq ?_
        refine pn_seq ?_
        refine pn_plain [] rfl ?_
        refine TE_l rfl rfl trivial rfl (RD.load (i := 4) Tryz.isAgg124 rfl rfl rfl) rfl ?_
        refine TE_q rfl rfl (RD.nilCheckP rfl) rfl ?_
        refine TE_q rfl rfl (RD.fieldAddr (o := 1) Tryz.runUnderlying128 rfl rfl Tryz.sizeOf4 rfl) rfl ?_
        refine TE_l rfl rfl trivial rfl (RD.load (i := 0) Tryz.isAgg4 rfl rfl rfl) rfl ?_
        refine TE_q rfl rfl (RD.move rfl) rfl ?_
        refine TE_join (σ := Unit) (fun _ => [(2, .pointer (some ⟨b2, 0, none⟩)), (5, .pointer (some ⟨b5, 0, none⟩)), (75, .bool (wr80 || ((decide (0 < (ys81.length : Int))) || (!decide ((err (obOkB (⟨(oneM (stO b false)).1, [], [], (idM (stO ys10 wr9)).1, (sevM idM 4 (stO ys60 wr59)).1, (⟨0, (fun _ => 0)⟩ : Lnk), (textM (stO ys72 wr71)).1⟩ : Ob)) 70) = 0)))))]) (fun _ => ((b10, .cells #[.pointer (some ⟨s1, 0, none⟩), .bool wr80] 128 (0, 0)) :: (s1, .cells #[sv82] 180 (0, 0)) :: (b6, .cells #[.func (.func 66) #[] #[.pointer (some ⟨b4, 0, none⟩)]] 131 (0, 0)) :: (b5, .cells (objV (⟨(oneM (stO b false)).1, [], [], (idM (stO ys10 wr9)).1, (sevM idM 4 (stO ys60 wr59)).1, (⟨0, (fun _ => 0)⟩ : Lnk), (textM (stO ys72 wr71)).1⟩ : Ob) (.slice none 0 0) (.slice none 0 0) (bldVx (sevM idM 4 (stO ys60 wr59)).1 st68)).cells 48 (0, 0)) :: (b4, .cells #[.pointer (some ⟨b10, 0, none⟩)] 124 (0, 0)) :: (b2, .cells (objV (⟨0, [], [], (fun _ => 0), [], (⟨0, (fun _ => 0)⟩ : Lnk), ⟨#[]⟩⟩ : Ob) (.slice none 0 0) (.slice none 0 0) (.slice none 0 0)).cells 48 (0, 0)) :: (HS3 ++ ((bldMx 36 (idC) (sevM idM 4 (stO ys60 wr59)).1 st68) ++ HX)))) (fun _ => True) ?_ ?_
        · refine TE_bool (fun hf88 => ?_) (fun hf88 => ?_)
          · refine TE_s rfl rfl rfl rfl rfl ?_
            refine TE_s rfl rfl rfl rfl rfl ?_
            refine TE_s rfl rfl rfl rfl rfl ?_
            refine TE_s rfl rfl rfl rfl rfl ?_
            refine TE_s rfl rfl rfl rfl rfl ?_
            refine TE_s rfl rfl rfl rfl rfl ?_
            refine TE_q rfl rfl (RD.pickT rfl rfl) rfl ?_
            refine TE_q rfl rfl (RD.move rfl) rfl ?_
            refine TE_s rfl rfl rfl rfl rfl ?_
            refine TE_s rfl rfl rfl rfl rfl ?_
            refine TE_s rfl rfl rfl rfl rfl ?_
            refine TE_q rfl rfl (RD.pickT rfl rfl) rfl ?_
            refine TE_nil0 ?_
            exact pn_give () trivial ⟨rfl, rfl, congrArg (fun b => some (Value.bool b)) (by first | (simp [hf88]; done) | (simp only [hf88]; rfl) | (simp only [hf88]; simp; done)), trivial⟩ (fun _ hw => hw.sp (fun a => by simp -failIfUnchanged <;> omega))
          · refine TE_l rfl rfl ⟨_, rfl, rfl⟩ rfl (RD.load (i := 4) Tryz.isAgg124 rfl rfl rfl) rfl ?_
            refine TE_gq rfl rfl rfl rfl (RD.nilCheckP rfl) rfl ?_
            refine TE_gq rfl rfl rfl rfl (RD.fieldAddr (o := 0) Tryz.runUnderlying128 rfl rfl Tryz.sizeOf125 rfl) rfl ?_
            refine TE_l rfl rfl ⟨_, rfl, rfl⟩ rfl (RD.load (i := 0) Tryz.isAgg125 rfl rfl rfl) rfl ?_
            refine TE_callG _ ((s1, .cells #[sv82] 180 (0, 0)) :: HS3) rfl rfl ⟨_, rfl, rfl⟩ Tryz.call73 rfl rfl rfl (fun w hw => c_leftC HS3 s1 sv82 ys81 w (hr83.mono (fun _ hw => hw.sp (fun a => by simp -failIfUnchanged <;> omega))) (hw.sp (fun a => by simp -failIfUnchanged <;> omega))) (fun a => by simp -failIfUnchanged <;> omega) ?_
            rintro v89 H90 ⟨rfl, rfl⟩ -
            refine TE_gq rfl rfl rfl rfl (RD.gtr rfl rfl) rfl ?_
            refine TE_q rfl rfl (RD.pickF rfl rfl) rfl ?_
            refine TE_q rfl rfl (RD.move rfl) rfl ?_
            refine TE_dec (fun hf91 => ?_) (fun hf91 => ?_)
            · refine TE_s rfl rfl rfl rfl rfl ?_
              refine TE_s rfl rfl rfl rfl rfl ?_
              refine TE_s rfl rfl rfl rfl rfl ?_
              refine TE_q rfl rfl (RD.pickT rfl rfl) rfl ?_
              refine TE_nil0 ?_
              exact pn_give () trivial ⟨rfl, rfl, congrArg (fun b => some (Value.bool b)) (by first | (simp [hf88, hf91]; done) | (simp only [hf88, decide_eq_true hf91]; rfl) | (simp only [hf88, decide_eq_true hf91]; simp; done)), trivial⟩ (fun _ hw => hw.sp (fun a => by simp -failIfUnchanged <;> omega))
            · refine TE_l rfl rfl ⟨_, rfl, rfl⟩ rfl (RD.loadA (i := 3) Tryz.isAgg48 Tryz.sizeOf48 rfl rfl (Nat.le_of_ble_eq_true rfl) (obj_all _ _ _ _)) rfl ?_
              refine TE_callG _ (bldMx 36 (idC) (sevM idM 4 (stO ys60 wr59)).1 st68) rfl rfl ⟨_, rfl, rfl⟩ Tryz.call33 rfl rfl rfl (fun w hw => c_obCheck (⟨(oneM (stO b false)).1, [], [], (idM (stO ys10 wr9)).1, (sevM idM 4 (stO ys60 wr59)).1, (⟨0, (fun _ => 0)⟩ : Lnk), (textM (stO ys72 wr71)).1⟩ : Ob) (.slice none 0 0) (.slice none 0 0) (bldVx (sevM idM 4 (stO ys60 wr59)).1 st68) (bldMx 36 (idC) (sevM idM 4 (stO ys60 wr59)).1 st68) w (.inl ⟨rfl, rfl⟩) Rdx.nil (hRD67.mono (fun _ hw => hw.sp (fun a => by simp -failIfUnchanged <;> omega))) (ok_k3 _ _ _ _) (hw.sp (fun a => by simp -failIfUnchanged <;> omega))) (fun a => by simp -failIfUnchanged <;> omega) ?_
              rintro v92 H93 ⟨rfl, rfl⟩ -
              refine TE_gq rfl rfl rfl rfl (RD.neq rfl rfl) rfl ?_
              refine TE_q rfl rfl (RD.pickF rfl rfl) rfl ?_
              refine TE_nil0 ?_
              exact pn_give () trivial ⟨rfl, rfl, congrArg (fun b => some (Value.bool b)) (by first | (simp [hf88, hf91]; done) | (simp only [hf88, decide_eq_false hf91]; rfl) | (simp only [hf88, decide_eq_false hf91]; simp; done)), trivial⟩ (fun _ hw => hw.sp (fun a => by simp -failIfUnchanged <;> omega))
        rintro _ -
        refine pn_cond rfl (fun hc94 => ?_) (fun hc94 => ?_)
        · simp only [Bool.not_eq_true', Bool.or_eq_true, decide_eq_false_iff_not, decide_eq_true_eq] at hc94
          refine pn_seq ?_
          refine pn_plain [] rfl ?_
          refine TE_q rfl rfl (RD.build (v := objV (⟨0, [], [], (fun _ => 0), [], (⟨0, (fun _ => 0)⟩ : Lnk), ⟨#[]⟩⟩ : Ob) (.slice none 0 0) (.slice none 0 0) (.slice none 0 0)) rfl (fun w => by kernel_rfl)) rfl ?_
          refine TE_putCW 5 (objV (⟨0, [], [], (fun _ => 0), [], (⟨0, (fun _ => 0)⟩ : Lnk), ⟨#[]⟩⟩ : Ob) (.slice none 0 0) (.slice none 0 0) (.slice none 0 0)).cells (objV (⟨0, [], [], (fun _ => 0), [], (⟨0, (fun _ => 0)⟩ : Lnk), ⟨#[]⟩⟩ : Ob) (.slice none 0 0) (.slice none 0 0) (.slice none 0 0)).cells ((b10, .cells #[.pointer (some ⟨s1, 0, none⟩), .bool wr80] 128 (0, 0)) :: (s1, .cells #[sv82] 180 (0, 0)) :: (b6, .cells #[.func (.func 66) #[] #[.pointer (some ⟨b4, 0, none⟩)]] 131 (0, 0)) :: (b5, .cells (objV (⟨(oneM (stO b false)).1, [], [], (idM (stO ys10 wr9)).1, (sevM idM 4 (stO ys60 wr59)).1, (⟨0, (fun _ => 0)⟩ : Lnk), (textM (stO ys72 wr71)).1⟩ : Ob) (.slice none 0 0) (.slice none 0 0) (bldVx (sevM idM 4 (stO ys60 wr59)).1 st68)).cells 48 (0, 0)) :: (b4, .cells #[.pointer (some ⟨b10, 0, none⟩)] 124 (0, 0)) :: (b2, .cells (objV (⟨0, [], [], (fun _ => 0), [], (⟨0, (fun _ => 0)⟩ : Lnk), ⟨#[]⟩⟩ : Ob) (.slice none 0 0) (.slice none 0 0) (.slice none 0 0)).cells 48 (0, 0)) :: (HS3 ++ ((bldMx 36 (idC) (sevM idM 4 (stO ys60 wr59)).1 st68) ++ HX))) rfl Tryz.sizeOf48 trivial rfl rfl rfl (objV_one _ _ _ _ rfl rfl rfl) rfl rfl rfl rfl (.inl hb2) ?_
          refine TE_q rfl rfl (RD.assign rfl) rfl ?_
          refine TE_nil0 ?_
          refine pn_ret ?_
          have hrd : readO (stO b false) = ((⟨(oneM (stO b false)).1, [], [], (idM (stO ys10 wr9)).1, (sevM idM 4 (stO ys60 wr59)).1, (⟨0, (fun _ => 0)⟩ : Lnk), (textM (stO ys72 wr71)).1⟩ : Ob), stO ys81 wr80) := (by simp only [readO, if_neg hc17, if_neg hc37, if_pos hc57, hg14, hg64, hg76, hg85])
          exact pn_doneF rfl ⟨objV (⟨0, [], [], (fun _ => 0), [], (⟨0, (fun _ => 0)⟩ : Lnk), ⟨#[]⟩⟩ : Ob) (.slice none 0 0) (.slice none 0 0) (.slice none 0 0), _, b2, 0, rfl, rfl, load_agg (i := 5) Tryz.isAgg48 Tryz.sizeOf48 rfl (Nat.le_of_ble_eq_true rfl) (obj_all _ _ _ _), ⟨_, _, rfl, rfl, rfl⟩⟩ (.inr ⟨parse_no hrd hc94, rfl, rfl⟩) (fun _ h => h.sp (fun _ => Nat.zero_le _)) (fun _ he => nomatch he)
        · simp only [Bool.not_eq_false', Bool.or_eq_false_iff, decide_eq_false_iff_not, decide_eq_true_eq] at hc94
          refine pn_skip ?_
          refine pn_seq ?_
          refine pn_plain [] rfl ?_
          refine TE_l rfl rfl trivial rfl (RD.loadA (i := 3) Tryz.isAgg48 Tryz.sizeOf48 rfl rfl (Nat.le_of_ble_eq_true rfl) (obj_all _ _ _ _)) rfl ?_
          refine TE_putCW 5 (objV (⟨0, [], [], (fun _ => 0), [], (⟨0, (fun _ => 0)⟩ : Lnk), ⟨#[]⟩⟩ : Ob) (.slice none 0 0) (.slice none 0 0) (.slice none 0 0)).cells (objV (⟨(oneM (stO b false)).1, [], [], (idM (stO ys10 wr9)).1, (sevM idM 4 (stO ys60 wr59)).1, (⟨0, (fun _ => 0)⟩ : Lnk), (textM (stO ys72 wr71)).1⟩ : Ob) (.slice none 0 0) (.slice none 0 0) (bldVx (sevM idM 4 (stO ys60 wr59)).1 st68)).cells ((b10, .cells #[.pointer (some ⟨s1, 0, none⟩), .bool wr80] 128 (0, 0)) :: (s1, .cells #[sv82] 180 (0, 0)) :: (b6, .cells #[.func (.func 66) #[] #[.pointer (some ⟨b4, 0, none⟩)]] 131 (0, 0)) :: (b5, .cells (objV (⟨(oneM (stO b false)).1, [], [], (idM (stO ys10 wr9)).1, (sevM idM 4 (stO ys60 wr59)).1, (⟨0, (fun _ => 0)⟩ : Lnk), (textM (stO ys72 wr71)).1⟩ : Ob) (.slice none 0 0) (.slice none 0 0) (bldVx (sevM idM 4 (stO ys60 wr59)).1 st68)).cells 48 (0, 0)) :: (b4, .cells #[.pointer (some ⟨b10, 0, none⟩)] 124 (0, 0)) :: (b2, .cells (objV (⟨(oneM (stO b false)).1, [], [], (idM (stO ys10 wr9)).1, (sevM idM 4 (stO ys60 wr59)).1, (⟨0, (fun _ => 0)⟩ : Lnk), (textM (stO ys72 wr71)).1⟩ : Ob) (.slice none 0 0) (.slice none 0 0) (bldVx (sevM idM 4 (stO ys60 wr59)).1 st68)).cells 48 (0, 0)) :: (HS3 ++ ((bldMx 36 (idC) (sevM idM 4 (stO ys60 wr59)).1 st68) ++ HX))) rfl Tryz.sizeOf48 trivial rfl rfl rfl (objV_one _ _ _ _ rfl rfl (bvx_one _ _)) rfl rfl rfl rfl (.inl hb2) ?_
          refine TE_q rfl rfl (RD.assign rfl) rfl ?_
          refine TE_nil0 ?_
          refine pn_ret ?_
          have hrd : readO (stO b false) = ((⟨(oneM (stO b false)).1, [], [], (idM (stO ys10 wr9)).1, (sevM idM 4 (stO ys60 wr59)).1, (⟨0, (fun _ => 0)⟩ : Lnk), (textM (stO ys72 wr71)).1⟩ : Ob), stO ys81 wr80) := (by simp only [readO, if_neg hc17, if_neg hc37, if_pos hc57, hg14, hg64, hg76, hg85])
          exact pn_doneF rfl ⟨objV (⟨(oneM (stO b false)).1, [], [], (idM (stO ys10 wr9)).1, (sevM idM 4 (stO ys60 wr59)).1, (⟨0, (fun _ => 0)⟩ : Lnk), (textM (stO ys72 wr71)).1⟩ : Ob) (.slice none 0 0) (.slice none 0 0) (bldVx (sevM idM 4 (stO ys60 wr59)).1 st68), _, b2, 0, rfl, rfl, load_agg (i := 5) Tryz.isAgg48 Tryz.sizeOf48 rfl (Nat.le_of_ble_eq_true rfl) (obj_all _ _ _ _), ⟨_, _, rfl, rfl, rfl⟩⟩ (.inl ⟨(⟨(oneM (stO b false)).1, [], [], (idM (stO ys10 wr9)).1, (sevM idM 4 (stO ys60 wr59)).1, (⟨0, (fun _ => 0)⟩ : Lnk), (textM (stO ys72 wr71)).1⟩ : Ob), none, none, st68, parse_ok hrd hc94, ok_k3 _ _ _ _, (show BldOk 1 (byteC) [] none from BldOk.nil), (show BldOk 34 (entC) [] none from BldOk.nil), hbo69, rfl, (show ((bldMx 36 (idC) (sevM idM 4 (stO ys60 wr59)).1 st68) : Mem) = _ from by simp [bldMx])⟩) (fun _ h => h.sp (fun a => by simp -failIfUnchanged <;> omega)) (fun e he => Or.symm ((fun e he => hX70 e (List.mem_cons_of_mem _ (List.mem_cons_of_mem _ (List.mem_append_left _ he)))) e he))
      · refine pn_seq ?_
        refine pn_plain [] rfl ?_
        refine TE_q rfl rfl (RD.eql rfl rfl) rfl ?_
        refine TE_q rfl rfl (RD.assign rfl) rfl ?_
        refine TE_nil0 ?_
        refine pn_condD rfl (fun hc95 => ?_) (fun hc95 => ?_)
        · refine pn_seq ?_
          refine pn_plain [] rfl ?_
          refine TE_l rfl rfl trivial rfl (RD.load (i := 4) Tryz.isAgg124 rfl rfl rfl) rfl ?_
          refine TE_callM _ ((b10, .cells #[.pointer (some ⟨s1, 0, none⟩), .bool wr9] 128 (0, 0)) :: (s1, .cells #[sv11] 180 (0, 0)) :: HS3) ((b6, .cells #[.func (.func 66) #[] #[.pointer (some ⟨b4, 0, none⟩)]] 131 (0, 0)) :: (b5, .cells (objV (⟨(oneM (stO b false)).1, [], [], (fun _ => 0), [], (⟨0, (fun _ => 0)⟩ : Lnk), ⟨#[]⟩⟩ : Ob) (.slice none 0 0) (.slice none 0 0) (.slice none 0 0)).cells 48 (0, 0)) :: (b4, .cells #[.pointer (some ⟨b10, 0, none⟩)] 124 (0, 0)) :: (b2, .cells (objV (⟨0, [], [], (fun _ => 0), [], (⟨0, (fun _ => 0)⟩ : Lnk), ⟨#[]⟩⟩ : Ob) (.slice none 0 0) (.slice none 0 0) (.slice none 0 0)).cells 48 (0, 0)) :: HX) ((b10, .cells #[.pointer (some ⟨s1, 0, none⟩), .bool wr9] 128 (0, 0)) :: (s1, .cells #[sv11] 180 (0, 0)) :: HS3) rfl rfl trivial Tryz.call65 rfl rfl rfl (ownC (.inl hb10) (ownC (.inl (hX5 _ List.mem_cons_self)) (fun e he => hX8 e (List.mem_cons_of_mem _ (List.mem_cons_of_mem _ he))))) (fun a => by simp -failIfUnchanged <;> omega) (fun w hw => c_rdOne b10 s1 sv11 ys10 wr9 HS3 w (hr12.mono (fun _ hw => hw.sp (fun a => by simp -failIfUnchanged <;> omega))) (by first | assumption | omega | (simp; done) | (simp; omega)) (hw.sp (fun a => by simp -failIfUnchanged <;> omega))) (fun a => by simp -failIfUnchanged <;> omega) ?_
          rintro v103 H104 ⟨wr97, ys98, sv99, hr100, hrl101, hg102, rfl, rfl⟩ hX96
          refine TE_sp ((b10, .cells #[.pointer (some ⟨s1, 0, none⟩), .bool wr97] 128 (0, 0)) :: (s1, .cells #[sv99] 180 (0, 0)) :: (b6, .cells #[.func (.func 66) #[] #[.pointer (some ⟨b4, 0, none⟩)]] 131 (0, 0)) :: (b5, .cells (objV (⟨(oneM (stO b false)).1, [], [], (fun _ => 0), [], (⟨0, (fun _ => 0)⟩ : Lnk), ⟨#[]⟩⟩ : Ob) (.slice none 0 0) (.slice none 0 0) (.slice none 0 0)).cells 48 (0, 0)) :: (b4, .cells #[.pointer (some ⟨b10, 0, none⟩)] 124 (0, 0)) :: (b2, .cells (objV (⟨0, [], [], (fun _ => 0), [], (⟨0, (fun _ => 0)⟩ : Lnk), ⟨#[]⟩⟩ : Ob) (.slice none 0 0) (.slice none 0 0) (.slice none 0 0)).cells 48 (0, 0)) :: (HS3 ++ HX)) (fun a => by simp -failIfUnchanged <;> omega) ?_
          refine TE_q rfl rfl (RD.fieldAddr (o := 36) Tryz.runUnderlying48 rfl rfl Tryz.sizeOf46 rfl) rfl ?_
          refine TE_q rfl rfl (RD.fieldAddr (o := 36) Tryz.runUnderlying46 rfl rfl Tryz.sizeOf3 rfl) rfl ?_
          refine TE_storeC 3 (objV (⟨(oneM (stO b false)).1, [], [], (fun _ => 0), [], (⟨0, (fun _ => 0)⟩ : Lnk), ⟨#[]⟩⟩ : Ob) (.slice none 0 0) (.slice none 0 0) (.slice none 0 0)).cells (objV (⟨(oneM (stO b false)).1, [], [], (fun _ => 0), [], (⟨(oneM (stO ys10 wr9)).1, (⟨0, (fun _ => 0)⟩ : Lnk).id⟩ : Lnk), ⟨#[]⟩⟩ : Ob) (.slice none 0 0) (.slice none 0 0) (.slice none 0 0)).cells ((b10, .cells #[.pointer (some ⟨s1, 0, none⟩), .bool wr97] 128 (0, 0)) :: (s1, .cells #[sv99] 180 (0, 0)) :: (b6, .cells #[.func (.func 66) #[] #[.pointer (some ⟨b4, 0, none⟩)]] 131 (0, 0)) :: (b5, .cells (objV (⟨(oneM (stO b false)).1, [], [], (fun _ => 0), [], (⟨(oneM (stO ys10 wr9)).1, (⟨0, (fun _ => 0)⟩ : Lnk).id⟩ : Lnk), ⟨#[]⟩⟩ : Ob) (.slice none 0 0) (.slice none 0 0) (.slice none 0 0)).cells 48 (0, 0)) :: (b4, .cells #[.pointer (some ⟨b10, 0, none⟩)] 124 (0, 0)) :: (b2, .cells (objV (⟨0, [], [], (fun _ => 0), [], (⟨0, (fun _ => 0)⟩ : Lnk), ⟨#[]⟩⟩ : Ob) (.slice none 0 0) (.slice none 0 0) (.slice none 0 0)).cells 48 (0, 0)) :: (HS3 ++ HX)) rfl Tryz.sizeOf3 trivial rfl rfl rfl rfl rfl rfl (put_obj_tg_k _ _ _ _ _) rfl (.inl hb5) ?_
          refine TE_nil0 ?_
          refine pn_seq ?_
          refine pn_plain [] rfl ?_
          refine TE_l rfl rfl trivial rfl (RD.load (i := 4) Tryz.isAgg124 rfl rfl rfl) rfl ?_
          refine TE_callM _ ((b10, .cells #[.pointer (some ⟨s1, 0, none⟩), .bool wr97] 128 (0, 0)) :: (s1, .cells #[sv99] 180 (0, 0)) :: HS3) ((b6, .cells #[.func (.func 66) #[] #[.pointer (some ⟨b4, 0, none⟩)]] 131 (0, 0)) :: (b5, .cells (objV (⟨(oneM (stO b false)).1, [], [], (fun _ => 0), [], (⟨(oneM (stO ys10 wr9)).1, (⟨0, (fun _ => 0)⟩ : Lnk).id⟩ : Lnk), ⟨#[]⟩⟩ : Ob) (.slice none 0 0) (.slice none 0 0) (.slice none 0 0)).cells 48 (0, 0)) :: (b4, .cells #[.pointer (some ⟨b10, 0, none⟩)] 124 (0, 0)) :: (b2, .cells (objV (⟨0, [], [], (fun _ => 0), [], (⟨0, (fun _ => 0)⟩ : Lnk), ⟨#[]⟩⟩ : Ob) (.slice none 0 0) (.slice none 0 0) (.slice none 0 0)).cells 48 (0, 0)) :: HX) ((b10, .cells #[.pointer (some ⟨s1, 0, none⟩), .bool wr97] 128 (0, 0)) :: (s1, .cells #[sv99] 180 (0, 0)) :: HS3) rfl rfl trivial Tryz.call71 rfl rfl rfl (ownC (.inl hb10) (ownC (.inl (hX5 _ List.mem_cons_self)) (fun e he => hX96 e (List.mem_cons_of_mem _ (List.mem_cons_of_mem _ he))))) (fun a => by simp -failIfUnchanged <;> omega) (fun w hw => c_rdId b10 s1 sv99 ys98 wr97 HS3 w (hr100.mono (fun _ hw => hw.sp (fun a => by simp -failIfUnchanged <;> omega))) (by first | assumption | omega | (simp; done) | (simp; omega)) (hw.sp (fun a => by simp -failIfUnchanged <;> omega))) (fun a => by simp -failIfUnchanged <;> omega) ?_
          rintro v112 H113 ⟨wr106, ys107, sv108, hr109, hrl110, hg111, rfl, rfl⟩ hX105
          refine TE_sp ((b10, .cells #[.pointer (some ⟨s1, 0, none⟩), .bool wr106] 128 (0, 0)) :: (s1, .cells #[sv108] 180 (0, 0)) :: (b6, .cells #[.func (.func 66) #[] #[.pointer (some ⟨b4, 0, none⟩)]] 131 (0, 0)) :: (b5, .cells (objV (⟨(oneM (stO b false)).1, [], [], (fun _ => 0), [], (⟨(oneM (stO ys10 wr9)).1, (⟨0, (fun _ => 0)⟩ : Lnk).id⟩ : Lnk), ⟨#[]⟩⟩ : Ob) (.slice none 0 0) (.slice none 0 0) (.slice none 0 0)).cells 48 (0, 0)) :: (b4, .cells #[.pointer (some ⟨b10, 0, none⟩)] 124 (0, 0)) :: (b2, .cells (objV (⟨0, [], [], (fun _ => 0), [], (⟨0, (fun _ => 0)⟩ : Lnk), ⟨#[]⟩⟩ : Ob) (.slice none 0 0) (.slice none 0 0) (.slice none 0 0)).cells 48 (0, 0)) :: (HS3 ++ HX)) (fun a => by simp -failIfUnchanged <;> omega) ?_
          refine TE_q rfl rfl (RD.fieldAddr (o := 36) Tryz.runUnderlying48 rfl rfl Tryz.sizeOf46 rfl) rfl ?_
          refine TE_q rfl rfl (RD.fieldAddr (o := 37) Tryz.runUnderlying46 rfl rfl Tryz.sizeOf36 rfl) rfl ?_
          refine TE_putC 3 (objV (⟨(oneM (stO b false)).1, [], [], (fun _ => 0), [], (⟨(oneM (stO ys10 wr9)).1, (⟨0, (fun _ => 0)⟩ : Lnk).id⟩ : Lnk), ⟨#[]⟩⟩ : Ob) (.slice none 0 0) (.slice none 0 0) (.slice none 0 0)).cells (objV (⟨(oneM (stO b false)).1, [], [], (fun _ => 0), [], (⟨(oneM (stO ys10 wr9)).1, (idM (stO ys98 wr97)).1⟩ : Lnk), ⟨#[]⟩⟩ : Ob) (.slice none 0 0) (.slice none 0 0) (.slice none 0 0)).cells ((b10, .cells #[.pointer (some ⟨s1, 0, none⟩), .bool wr106] 128 (0, 0)) :: (s1, .cells #[sv108] 180 (0, 0)) :: (b6, .cells #[.func (.func 66) #[] #[.pointer (some ⟨b4, 0, none⟩)]] 131 (0, 0)) :: (b5, .cells (objV (⟨(oneM (stO b false)).1, [], [], (fun _ => 0), [], (⟨(oneM (stO ys10 wr9)).1, (idM (stO ys98 wr97)).1⟩ : Lnk), ⟨#[]⟩⟩ : Ob) (.slice none 0 0) (.slice none 0 0) (.slice none 0 0)).cells 48 (0, 0)) :: (b4, .cells #[.pointer (some ⟨b10, 0, none⟩)] 124 (0, 0)) :: (b2, .cells (objV (⟨0, [], [], (fun _ => 0), [], (⟨0, (fun _ => 0)⟩ : Lnk), ⟨#[]⟩⟩ : Ob) (.slice none 0 0) (.slice none 0 0) (.slice none 0 0)).cells 48 (0, 0)) :: (HS3 ++ HX)) rfl Tryz.sizeOf36 trivial rfl rfl rfl rfl rfl rfl (put_obj_tg_id _ _ _ _ _) rfl (.inl hb5) ?_
          refine TE_nil0 ?_
          refine pn_plain [] rfl ?_
          refine TE_l rfl rfl trivial rfl (RD.load (i := 2) Tryz.isAgg131 rfl rfl rfl) rfl ?_
          refine TE_callM _ ((b10, .cells #[.pointer (some ⟨s1, 0, none⟩), .bool wr106] 128 (0, 0)) :: (s1, .cells #[sv108] 180 (0, 0)) :: HS3) ((b6, .cells #[.func (.func 66) #[] #[.pointer (some ⟨b4, 0, none⟩)]] 131 (0, 0)) :: (b5, .cells (objV (⟨(oneM (stO b false)).1, [], [], (fun _ => 0), [], (⟨(oneM (stO ys10 wr9)).1, (idM (stO ys98 wr97)).1⟩ : Lnk), ⟨#[]⟩⟩ : Ob) (.slice none 0 0) (.slice none 0 0) (.slice none 0 0)).cells 48 (0, 0)) :: (b4, .cells #[.pointer (some ⟨b10, 0, none⟩)] 124 (0, 0)) :: (b2, .cells (objV (⟨0, [], [], (fun _ => 0), [], (⟨0, (fun _ => 0)⟩ : Lnk), ⟨#[]⟩⟩ : Ob) (.slice none 0 0) (.slice none 0 0) (.slice none 0 0)).cells 48 (0, 0)) :: HX) ((b10, .cells #[.pointer (some ⟨s1, 0, none⟩), .bool wr106] 128 (0, 0)) :: (s1, .cells #[sv108] 180 (0, 0)) :: (b4, .cells #[.pointer (some ⟨b10, 0, none⟩)] 124 (0, 0)) :: HS3) rfl rfl trivial Tryz.call66 rfl rfl rfl (ownC (.inl hb10) (ownC (.inl (hX5 _ List.mem_cons_self)) (fun e he => hX105 e (List.mem_cons_of_mem _ (List.mem_cons_of_mem _ he))))) (fun a => by simp -failIfUnchanged <;> omega) (fun w hw => c_text b4 b10 s1 sv108 ys107 wr106 HS3 w (hr109.mono (fun _ hw => hw.sp (fun a => by simp -failIfUnchanged <;> omega))) (by first | assumption | omega | (simp; done) | (simp; omega)) (hw.sp (fun a => by simp -failIfUnchanged <;> omega))) (fun a => by simp -failIfUnchanged <;> omega) ?_
          rintro v121 H122 ⟨wr115, ys116, sv117, hr118, hrl119, hg120, rfl, rfl⟩ hX114
          refine TE_sp ((b10, .cells #[.pointer (some ⟨s1, 0, none⟩), .bool wr115] 128 (0, 0)) :: (s1, .cells #[sv117] 180 (0, 0)) :: (b6, .cells #[.func (.func 66) #[] #[.pointer (some ⟨b4, 0, none⟩)]] 131 (0, 0)) :: (b5, .cells (objV (⟨(oneM (stO b false)).1, [], [], (fun _ => 0), [], (⟨(oneM (stO ys10 wr9)).1, (idM (stO ys98 wr97)).1⟩ : Lnk), ⟨#[]⟩⟩ : Ob) (.slice none 0 0) (.slice none 0 0) (.slice none 0 0)).cells 48 (0, 0)) :: (b4, .cells #[.pointer (some ⟨b10, 0, none⟩)] 124 (0, 0)) :: (b2, .cells (objV (⟨0, [], [], (fun _ => 0), [], (⟨0, (fun _ => 0)⟩ : Lnk), ⟨#[]⟩⟩ : Ob) (.slice none 0 0) (.slice none 0 0) (.slice none 0 0)).cells 48 (0, 0)) :: (HS3 ++ HX)) (fun a => by simp -failIfUnchanged <;> omega) ?_
          refine TE_q rfl rfl (RD.fieldAddr (o := 69) Tryz.runUnderlying48 rfl rfl Tryz.sizeOf9 rfl) rfl ?_
          refine TE_storeC 3 (objV (⟨(oneM (stO b false)).1, [], [], (fun _ => 0), [], (⟨(oneM (stO ys10 wr9)).1, (idM (stO ys98 wr97)).1⟩ : Lnk), ⟨#[]⟩⟩ : Ob) (.slice none 0 0) (.slice none 0 0) (.slice none 0 0)).cells (objV (⟨(oneM (stO b false)).1, [], [], (fun _ => 0), [], (⟨(oneM (stO ys10 wr9)).1, (idM (stO ys98 wr97)).1⟩ : Lnk), (textM (stO ys107 wr106)).1⟩ : Ob) (.slice none 0 0) (.slice none 0 0) (.slice none 0 0)).cells ((b10, .cells #[.pointer (some ⟨s1, 0, none⟩), .bool wr115] 128 (0, 0)) :: (s1, .cells #[sv117] 180 (0, 0)) :: (b6, .cells #[.func (.func 66) #[] #[.pointer (some ⟨b4, 0, none⟩)]] 131 (0, 0)) :: (b5, .cells (objV (⟨(oneM (stO b false)).1, [], [], (fun _ => 0), [], (⟨(oneM (stO ys10 wr9)).1, (idM (stO ys98 wr97)).1⟩ : Lnk), (textM (stO ys107 wr106)).1⟩ : Ob) (.slice none 0 0) (.slice none 0 0) (.slice none 0 0)).cells 48 (0, 0)) :: (b4, .cells #[.pointer (some ⟨b10, 0, none⟩)] 124 (0, 0)) :: (b2, .cells (objV (⟨0, [], [], (fun _ => 0), [], (⟨0, (fun _ => 0)⟩ : Lnk), ⟨#[]⟩⟩ : Ob) (.slice none 0 0) (.slice none 0 0) (.slice none 0 0)).cells 48 (0, 0)) :: (HS3 ++ HX)) rfl Tryz.sizeOf9 trivial rfl rfl rfl rfl rfl rfl (put_obj_m _ _ _ _ _) rfl (.inl hb5) ?_
          refine TE_nil0 ?_
          refine pn_seq ?_
          refine pn_seq ?_
          refine pn_plain [] rfl ?_
          refine TE_l rfl rfl trivial rfl (RD.load (i := 4) Tryz.isAgg124 rfl rfl rfl) rfl ?_
          refine TE_q rfl rfl (RD.nilCheckP rfl) rfl ?_
          refine TE_q rfl rfl (RD.fieldAddr (o := 1) Tryz.runUnderlying128 rfl rfl Tryz.sizeOf4 rfl) rfl ?_
          refine TE_l rfl rfl trivial rfl (RD.load (i := 0) Tryz.isAgg4 rfl rfl rfl) rfl ?_
          refine TE_q rfl rfl (RD.move rfl) rfl ?_
          refine TE_join (σ := Unit) (fun _ => [(2, .pointer (some ⟨b2, 0, none⟩)), (5, .pointer (some ⟨b5, 0, none⟩)), (75, .bool (wr115 || ((decide (0 < (ys116.length : Int))) || (!decide ((err (obOkB (⟨(oneM (stO b false)).1, [], [], (fun _ => 0), [], (⟨(oneM (stO ys10 wr9)).1, (idM (stO ys98 wr97)).1⟩ : Lnk), (textM (stO ys107 wr106)).1⟩ : Ob)) 70) = 0)))))]) (fun _ => ((b10, .cells #[.pointer (some ⟨s1, 0, none⟩), .bool wr115] 128 (0, 0)) :: (s1, .cells #[sv117] 180 (0, 0)) :: (b6, .cells #[.func (.func 66) #[] #[.pointer (some ⟨b4, 0, none⟩)]] 131 (0, 0)) :: (b5, .cells (objV (⟨(oneM (stO b false)).1, [], [], (fun _ => 0), [], (⟨(oneM (stO ys10 wr9)).1, (idM (stO ys98 wr97)).1⟩ : Lnk), (textM (stO ys107 wr106)).1⟩ : Ob) (.slice none 0 0) (.slice none 0 0) (.slice none 0 0)).cells 48 (0, 0)) :: (b4, .cells #[.pointer (some ⟨b10, 0, none⟩)] 124 (0, 0)) :: (b2, .cells (objV (⟨0, [], [], (fun _ => 0), [], (⟨0, (fun _ => 0)⟩ : Lnk), ⟨#[]⟩⟩ : Ob) (.slice none 0 0) (.slice none 0 0) (.slice none 0 0)).cells 48 (0, 0)) :: (HS3 ++ HX))) (fun _ => True) ?_ ?_
          · refine TE_bool (fun hf123 => ?_) (fun hf123 => ?_)
            · refine TE_s rfl rfl rfl rfl rfl ?_
              refine TE_s rfl rfl rfl rfl rfl ?_
              refine TE_s rfl rfl rfl rfl rfl ?_
              refine TE_s rfl rfl rfl rfl rfl ?_
              refine TE_s rfl rfl rfl rfl rfl ?_
              refine TE_s rfl rfl rfl rfl rfl ?_
              refine TE_q rfl rfl (RD.pickT rfl rfl) rfl ?_
              refine TE_q rfl rfl (RD.move rfl) rfl ?_
              refine TE_s rfl rfl rfl rfl rfl ?_
              refine TE_s rfl rfl rfl rfl rfl ?_
              refine TE_s rfl rfl rfl rfl rfl ?_
              refine TE_q rfl rfl (RD.pickT rfl rfl) rfl ?_
              refine TE_nil0 ?_
              exact pn_give () trivial ⟨rfl, rfl, congrArg (fun b => some (Value.bool b)) (by first | (simp [hf123]; done) | (simp only [hf123]; rfl) | (simp only [hf123]; simp; done)), trivial⟩ (fun _ hw => hw.sp (fun a => by simp -failIfUnchanged <;> omega))
            · refine TE_l rfl rfl ⟨_, rfl, rfl⟩ rfl (RD.load (i := 4) Tryz.isAgg124 rfl rfl rfl) rfl ?_
              refine TE_gq rfl rfl rfl rfl (RD.nilCheckP rfl) rfl ?_
              refine TE_gq rfl rfl rfl rfl (RD.fieldAddr (o := 0) Tryz.runUnderlying128 rfl rfl Tryz.sizeOf125 rfl) rfl ?_
              refine TE_l rfl rfl ⟨_, rfl, rfl⟩ rfl (RD.load (i := 0) Tryz.isAgg125 rfl rfl rfl) rfl ?_
              refine TE_callG _ ((s1, .cells #[sv117] 180 (0, 0)) :: HS3) rfl rfl ⟨_, rfl, rfl⟩ Tryz.call73 rfl rfl rfl (fun w hw => c_leftC HS3 s1 sv117 ys116 w (hr118.mono (fun _ hw => hw.sp (fun a => by simp -failIfUnchanged <;> omega))) (hw.sp (fun a => by simp -failIfUnchanged <;> omega))) (fun a => by simp -failIfUnchanged <;> omega) ?_
              rintro v124 H125 ⟨rfl, rfl⟩ -
              refine TE_gq rfl rfl rfl rfl (RD.gtr rfl rfl) rfl ?_
              refine TE_q rfl rfl (RD.pickF rfl rfl) rfl ?_
              refine TE_q rfl rfl (RD.move rfl) rfl ?_
              refine TE_dec (fun hf126 => ?_) (fun hf126 => ?_)
              · refine TE_s rfl rfl rfl rfl rfl ?_
                refine TE_s rfl rfl rfl rfl rfl ?_
                refine TE_s rfl rfl rfl rfl rfl ?_
                refine TE_q rfl rfl (RD.pickT rfl rfl) rfl ?_
                refine TE_nil0 ?_
                exact pn_give () trivial ⟨rfl, rfl, congrArg (fun b => some (Value.bool b)) (by first | (simp [hf123, hf126]; done) | (simp only [hf123, decide_eq_true hf126]; rfl) | (simp only [hf123, decide_eq_true hf126]; simp; done)), trivial⟩ (fun _ hw => hw.sp (fun a => by simp -failIfUnchanged <;> omega))
              · refine TE_l rfl rfl ⟨_, rfl, rfl⟩ rfl (RD.loadA (i := 3) Tryz.isAgg48 Tryz.sizeOf48 rfl rfl (Nat.le_of_ble_eq_true rfl) (obj_all _ _ _ _)) rfl ?_
                refine TE_callG _ [] rfl rfl ⟨_, rfl, rfl⟩ Tryz.call33 rfl rfl rfl (fun w hw => c_obCheck (⟨(oneM (stO b false)).1, [], [], (fun _ => 0), [], (⟨(oneM (stO ys10 wr9)).1, (idM (stO ys98 wr97)).1⟩ : Lnk), (textM (stO ys107 wr106)).1⟩ : Ob) (.slice none 0 0) (.slice none 0 0) (.slice none 0 0) [] w (.inl ⟨rfl, rfl⟩) Rdx.nil Rdx.nil (ok_k4 _ _ _ _) (hw.sp (fun a => by simp -failIfUnchanged <;> omega))) (fun a => by simp -failIfUnchanged <;> omega) ?_
                rintro v127 H128 ⟨rfl, rfl⟩ -
                refine TE_gq rfl rfl rfl rfl (RD.neq rfl rfl) rfl ?_
                refine TE_q rfl rfl (RD.pickF rfl rfl) rfl ?_
                refine TE_nil0 ?_
                exact pn_give () trivial ⟨rfl, rfl, congrArg (fun b => some (Value.bool b)) (by first | (simp [hf123, hf126]; done) | (simp only [hf123, decide_eq_false hf126]; rfl) | (simp only [hf123, decide_eq_false hf126]; simp; done)), trivial⟩ (fun _ hw => hw.sp (fun a => by simp -failIfUnchanged <;> omega))
          rintro _ -
          refine pn_cond rfl (fun hc129 => ?_) (fun hc129 => ?_)
          · simp only [Bool.not_eq_true', Bool.or_eq_true, decide_eq_false_iff_not, decide_eq_true_eq] at hc129
            refine pn_seq ?_
            refine pn_plain [] rfl ?_
            refine TE_q rfl rfl (RD.build (v := objV (⟨0, [], [], (fun _ => 0), [], (⟨0, (fun _ => 0)⟩ : Lnk), ⟨#[]⟩⟩ : Ob) (.slice none 0 0) (.slice none 0 0) (.slice none 0 0)) rfl (fun w => by kernel_rfl)) rfl ?_
            refine TE_putCW 5 (objV (⟨0, [], [], (fun _ => 0), [], (⟨0, (fun _ => 0)⟩ : Lnk), ⟨#[]⟩⟩ : Ob) (.slice none 0 0) (.slice none 0 0) (.slice none 0 0)).cells (objV (⟨0, [], [], (fun _ => 0), [], (⟨0, (fun _ => 0)⟩ : Lnk), ⟨#[]⟩⟩ : Ob) (.slice none 0 0) (.slice none 0 0) (.slice none 0 0)).cells ((b10, .cells #[.pointer (some ⟨s1, 0, none⟩), .bool wr115] 128 (0, 0)) :: (s1, .cells #[sv117] 180 (0, 0)) :: (b6, .cells #[.func (.func 66) #[] #[.pointer (some ⟨b4, 0, none⟩)]] 131 (0, 0)) :: (b5, .cells (objV (⟨(oneM (stO b false)).1, [], [], (fun _ => 0), [], (⟨(oneM (stO ys10 wr9)).1, (idM (stO ys98 wr97)).1⟩ : Lnk), (textM (stO ys107 wr106)).1⟩ : Ob) (.slice none 0 0) (.slice none 0 0) (.slice none 0 0)).cells 48 (0, 0)) :: (b4, .cells #[.pointer (some ⟨b10, 0, none⟩)] 124 (0, 0)) :: (b2, .cells (objV (⟨0, [], [], (fun _ => 0), [], (⟨0, (fun _ => 0)⟩ : Lnk), ⟨#[]⟩⟩ : Ob) (.slice none 0 0) (.slice none 0 0) (.slice none 0 0)).cells 48 (0, 0)) :: (HS3 ++ HX)) rfl Tryz.sizeOf48 trivial rfl rfl rfl (objV_one _ _ _ _ rfl rfl rfl) rfl rfl rfl rfl (.inl hb2) ?_
            refine TE_q rfl rfl (RD.assign rfl) rfl ?_
            refine TE_nil0 ?_
            refine pn_ret ?_
            have hrd : readO (stO b false) = ((⟨(oneM (stO b false)).1, [], [], (fun _ => 0), [], (⟨(oneM (stO ys10 wr9)).1, (idM (stO ys98 wr97)).1⟩ : Lnk), (textM (stO ys107 wr106)).1⟩ : Ob), stO ys116 wr115) := (by simp only [readO, if_neg hc17, if_neg hc37, if_neg hc57, if_pos hc95, hg14, hg102, hg111, hg120])
            exact pn_doneF rfl ⟨objV (⟨0, [], [], (fun _ => 0), [], (⟨0, (fun _ => 0)⟩ : Lnk), ⟨#[]⟩⟩ : Ob) (.slice none 0 0) (.slice none 0 0) (.slice none 0 0), _, b2, 0, rfl, rfl, load_agg (i := 5) Tryz.isAgg48 Tryz.sizeOf48 rfl (Nat.le_of_ble_eq_true rfl) (obj_all _ _ _ _), ⟨_, _, rfl, rfl, rfl⟩⟩ (.inr ⟨parse_no hrd hc129, rfl, rfl⟩) (fun _ h => h.sp (fun _ => Nat.zero_le _)) (fun _ he => nomatch he)
          · simp only [Bool.not_eq_false', Bool.or_eq_false_iff, decide_eq_false_iff_not, decide_eq_true_eq] at hc129
            refine pn_skip ?_
            refine pn_seq ?_
            refine pn_plain [] rfl ?_
            refine TE_l rfl rfl trivial rfl (RD.loadA (i := 3) Tryz.isAgg48 Tryz.sizeOf48 rfl rfl (Nat.le_of_ble_eq_true rfl) (obj_all _ _ _ _)) rfl ?_
            refine TE_putCW 5 (objV (⟨0, [], [], (fun _ => 0), [], (⟨0, (fun _ => 0)⟩ : Lnk), ⟨#[]⟩⟩ : Ob) (.slice none 0 0) (.slice none 0 0) (.slice none 0 0)).cells (objV (⟨(oneM (stO b false)).1, [], [], (fun _ => 0), [], (⟨(oneM (stO ys10 wr9)).1, (idM (stO ys98 wr97)).1⟩ : Lnk), (textM (stO ys107 wr106)).1⟩ : Ob) (.slice none 0 0) (.slice none 0 0) (.slice none 0 0)).cells ((b10, .cells #[.pointer (some ⟨s1, 0, none⟩), .bool wr115] 128 (0, 0)) :: (s1, .cells #[sv117] 180 (0, 0)) :: (b6, .cells #[.func (.func 66) #[] #[.pointer (some ⟨b4, 0, none⟩)]] 131 (0, 0)) :: (b5, .cells (objV (⟨(oneM (stO b false)).1, [], [], (fun _ => 0), [], (⟨(oneM (stO ys10 wr9)).1, (idM (stO ys98 wr97)).1⟩ : Lnk), (textM (stO ys107 wr106)).1⟩ : Ob) (.slice none 0 0) (.slice none 0 0) (.slice none 0 0)).cells 48 (0, 0)) :: (b4, .cells #[.pointer (some ⟨b10, 0, none⟩)] 124 (0, 0)) :: (b2, .cells (objV (⟨(oneM (stO b false)).1, [], [], (fun _ => 0), [], (⟨(oneM (stO ys10 wr9)).1, (idM (stO ys98 wr97)).1⟩ : Lnk), (textM (stO ys107 wr106)).1⟩ : Ob) (.slice none 0 0) (.slice none 0 0) (.slice none 0 0)).cells 48 (0, 0)) :: (HS3 ++ HX)) rfl Tryz.sizeOf48 trivial rfl rfl rfl (objV_one _ _ _ _ rfl rfl rfl) rfl rfl rfl rfl (.inl hb2) ?_
            refine TE_q rfl rfl (RD.assign rfl) rfl ?_
            refine TE_nil0 ?_
            refine pn_ret ?_
            have hrd : readO (stO b false) = ((⟨(oneM (stO b false)).1, [], [], (fun _ => 0), [], (⟨(oneM (stO ys10 wr9)).1, (idM (stO ys98 wr97)).1⟩ : Lnk), (textM (stO ys107 wr106)).1⟩ : Ob), stO ys116 wr115) := (by simp only [readO, if_neg hc17, if_neg hc37, if_neg hc57, if_pos hc95, hg14, hg102, hg111, hg120])
            exact pn_doneF rfl ⟨objV (⟨(oneM (stO b false)).1, [], [], (fun _ => 0), [], (⟨(oneM (stO ys10 wr9)).1, (idM (stO ys98 wr97)).1⟩ : Lnk), (textM (stO ys107 wr106)).1⟩ : Ob) (.slice none 0 0) (.slice none 0 0) (.slice none 0 0), _, b2, 0, rfl, rfl, load_agg (i := 5) Tryz.isAgg48 Tryz.sizeOf48 rfl (Nat.le_of_ble_eq_true rfl) (obj_all _ _ _ _), ⟨_, _, rfl, rfl, rfl⟩⟩ (.inl ⟨(⟨(oneM (stO b false)).1, [], [], (fun _ => 0), [], (⟨(oneM (stO ys10 wr9)).1, (idM (stO ys98 wr97)).1⟩ : Lnk), (textM (stO ys107 wr106)).1⟩ : Ob), none, none, none, parse_ok hrd hc129, ok_k4 _ _ _ _, (show BldOk 1 (byteC) [] none from BldOk.nil), (show BldOk 34 (entC) [] none from BldOk.nil), (show BldOk 32 (idC) [] none from BldOk.nil), rfl, (show ([] : Mem) = _ from by simp [bldMx])⟩) (fun _ h => h.sp (fun _ => Nat.zero_le _)) (fun _ he => nomatch he)
        · refine pn_skip ?_
          refine pn_seq ?_
          refine pn_seq ?_
          refine pn_plain [] rfl ?_
          refine TE_l rfl rfl trivial rfl (RD.load (i := 4) Tryz.isAgg124 rfl rfl rfl) rfl ?_
          refine TE_q rfl rfl (RD.nilCheckP rfl) rfl ?_
          refine TE_q rfl rfl (RD.fieldAddr (o := 1) Tryz.runUnderlying128 rfl rfl Tryz.sizeOf4 rfl) rfl ?_
          refine TE_l rfl rfl trivial rfl (RD.load (i := 2) Tryz.isAgg4 rfl rfl rfl) rfl ?_
          refine TE_q rfl rfl (RD.move rfl) rfl ?_
          refine TE_join (σ := Unit) (fun _ => [(2, .pointer (some ⟨b2, 0, none⟩)), (5, .pointer (some ⟨b5, 0, none⟩)), (75, .bool (wr9 || ((decide (0 < (ys10.length : Int))) || (!decide ((err (obOkB (⟨(oneM (stO b false)).1, [], [], (fun _ => 0), [], (⟨0, (fun _ => 0)⟩ : Lnk), ⟨#[]⟩⟩ : Ob)) 70) = 0)))))]) (fun _ => ((b6, .cells #[.func (.func 66) #[] #[.pointer (some ⟨b4, 0, none⟩)]] 131 (0, 0)) :: (b5, .cells (objV (⟨(oneM (stO b false)).1, [], [], (fun _ => 0), [], (⟨0, (fun _ => 0)⟩ : Lnk), ⟨#[]⟩⟩ : Ob) (.slice none 0 0) (.slice none 0 0) (.slice none 0 0)).cells 48 (0, 0)) :: (b10, .cells #[.pointer (some ⟨s1, 0, none⟩), .bool wr9] 128 (0, 0)) :: (s1, .cells #[sv11] 180 (0, 0)) :: (b4, .cells #[.pointer (some ⟨b10, 0, none⟩)] 124 (0, 0)) :: (b2, .cells (objV (⟨0, [], [], (fun _ => 0), [], (⟨0, (fun _ => 0)⟩ : Lnk), ⟨#[]⟩⟩ : Ob) (.slice none 0 0) (.slice none 0 0) (.slice none 0 0)).cells 48 (0, 0)) :: (HS3 ++ HX))) (fun _ => True) ?_ ?_
          · refine TE_bool (fun hf130 => ?_) (fun hf130 => ?_)
            · refine TE_s rfl rfl rfl rfl rfl ?_
              refine TE_s rfl rfl rfl rfl rfl ?_
              refine TE_s rfl rfl rfl rfl rfl ?_
              refine TE_s rfl rfl rfl rfl rfl ?_
              refine TE_s rfl rfl rfl rfl rfl ?_
              refine TE_s rfl rfl rfl rfl rfl ?_
              refine TE_q rfl rfl (RD.pickT rfl rfl) rfl ?_
              refine TE_q rfl rfl (RD.move rfl) rfl ?_
              refine TE_s rfl rfl rfl rfl rfl ?_
              refine TE_s rfl rfl rfl rfl rfl ?_
              refine TE_s rfl rfl rfl rfl rfl ?_
              refine TE_q rfl rfl (RD.pickT rfl rfl) rfl ?_
              refine TE_nil0 ?_
              exact pn_give () trivial ⟨rfl, rfl, congrArg (fun b => some (Value.bool b)) (by first | (simp [hf130]; done) | (simp only [hf130]; rfl) | (simp only [hf130]; simp; done)), trivial⟩ (fun _ hw => hw.sp (fun a => by simp -failIfUnchanged <;> omega))
            · refine TE_l rfl rfl ⟨_, rfl, rfl⟩ rfl (RD.load (i := 4) Tryz.isAgg124 rfl rfl rfl) rfl ?_
              refine TE_gq rfl rfl rfl rfl (RD.nilCheckP rfl) rfl ?_
              refine TE_gq rfl rfl rfl rfl (RD.fieldAddr (o := 0) Tryz.runUnderlying128 rfl rfl Tryz.sizeOf125 rfl) rfl ?_
              refine TE_l rfl rfl ⟨_, rfl, rfl⟩ rfl (RD.load (i := 2) Tryz.isAgg125 rfl rfl rfl) rfl ?_
              refine TE_callG _ ((s1, .cells #[sv11] 180 (0, 0)) :: HS3) rfl rfl ⟨_, rfl, rfl⟩ Tryz.call73 rfl rfl rfl (fun w hw => c_leftC HS3 s1 sv11 ys10 w (hr12.mono (fun _ hw => hw.sp (fun a => by simp -failIfUnchanged <;> omega))) (hw.sp (fun a => by simp -failIfUnchanged <;> omega))) (fun a => by simp -failIfUnchanged <;> omega) ?_
              rintro v131 H132 ⟨rfl, rfl⟩ -
              refine TE_gq rfl rfl rfl rfl (RD.gtr rfl rfl) rfl ?_
              refine TE_q rfl rfl (RD.pickF rfl rfl) rfl ?_
              refine TE_q rfl rfl (RD.move rfl) rfl ?_
              refine TE_dec (fun hf133 => ?_) (fun hf133 => ?_)
              · refine TE_s rfl rfl rfl rfl rfl ?_
                refine TE_s rfl rfl rfl rfl rfl ?_
                refine TE_s rfl rfl rfl rfl rfl ?_
                refine TE_q rfl rfl (RD.pickT rfl rfl) rfl ?_
                refine TE_nil0 ?_
                exact pn_give () trivial ⟨rfl, rfl, congrArg (fun b => some (Value.bool b)) (by first | (simp [hf130, hf133]; done) | (simp only [hf130, decide_eq_true hf133]; rfl) | (simp only [hf130, decide_eq_true hf133]; simp; done)), trivial⟩ (fun _ hw => hw.sp (fun a => by simp -failIfUnchanged <;> omega))
              · refine TE_l rfl rfl ⟨_, rfl, rfl⟩ rfl (RD.loadA (i := 1) Tryz.isAgg48 Tryz.sizeOf48 rfl rfl (Nat.le_of_ble_eq_true rfl) (obj_all _ _ _ _)) rfl ?_
                refine TE_callG _ [] rfl rfl ⟨_, rfl, rfl⟩ Tryz.call33 rfl rfl rfl (fun w hw => c_obCheck (⟨(oneM (stO b false)).1, [], [], (fun _ => 0), [], (⟨0, (fun _ => 0)⟩ : Lnk), ⟨#[]⟩⟩ : Ob) (.slice none 0 0) (.slice none 0 0) (.slice none 0 0) [] w (.inl ⟨rfl, rfl⟩) Rdx.nil Rdx.nil (ok_k0 _) (hw.sp (fun a => by simp -failIfUnchanged <;> omega))) (fun a => by simp -failIfUnchanged <;> omega) ?_
                rintro v134 H135 ⟨rfl, rfl⟩ -
                refine TE_gq rfl rfl rfl rfl (RD.neq rfl rfl) rfl ?_
                refine TE_q rfl rfl (RD.pickF rfl rfl) rfl ?_
                refine TE_nil0 ?_
                exact pn_give () trivial ⟨rfl, rfl, congrArg (fun b => some (Value.bool b)) (by first | (simp [hf130, hf133]; done) | (simp only [hf130, decide_eq_false hf133]; rfl) | (simp only [hf130, decide_eq_false hf133]; simp; done)), trivial⟩ (fun _ hw => hw.sp (fun a => by simp -failIfUnchanged <;> omega))
          rintro _ -
          refine pn_cond rfl (fun hc136 => ?_) (fun hc136 => ?_)
          · simp only [Bool.not_eq_true', Bool.or_eq_true, decide_eq_false_iff_not, decide_eq_true_eq] at hc136
            refine pn_seq ?_
            refine pn_plain [] rfl ?_
            refine TE_q rfl rfl (RD.build (v := objV (⟨0, [], [], (fun _ => 0), [], (⟨0, (fun _ => 0)⟩ : Lnk), ⟨#[]⟩⟩ : Ob) (.slice none 0 0) (.slice none 0 0) (.slice none 0 0)) rfl (fun w => by kernel_rfl)) rfl ?_
            refine TE_putCW 5 (objV (⟨0, [], [], (fun _ => 0), [], (⟨0, (fun _ => 0)⟩ : Lnk), ⟨#[]⟩⟩ : Ob) (.slice none 0 0) (.slice none 0 0) (.slice none 0 0)).cells (objV (⟨0, [], [], (fun _ => 0), [], (⟨0, (fun _ => 0)⟩ : Lnk), ⟨#[]⟩⟩ : Ob) (.slice none 0 0) (.slice none 0 0) (.slice none 0 0)).cells ((b6, .cells #[.func (.func 66) #[] #[.pointer (some ⟨b4, 0, none⟩)]] 131 (0, 0)) :: (b5, .cells (objV (⟨(oneM (stO b false)).1, [], [], (fun _ => 0), [], (⟨0, (fun _ => 0)⟩ : Lnk), ⟨#[]⟩⟩ : Ob) (.slice none 0 0) (.slice none 0 0) (.slice none 0 0)).cells 48 (0, 0)) :: (b10, .cells #[.pointer (some ⟨s1, 0, none⟩), .bool wr9] 128 (0, 0)) :: (s1, .cells #[sv11] 180 (0, 0)) :: (b4, .cells #[.pointer (some ⟨b10, 0, none⟩)] 124 (0, 0)) :: (b2, .cells (objV (⟨0, [], [], (fun _ => 0), [], (⟨0, (fun _ => 0)⟩ : Lnk), ⟨#[]⟩⟩ : Ob) (.slice none 0 0) (.slice none 0 0) (.slice none 0 0)).cells 48 (0, 0)) :: (HS3 ++ HX)) rfl Tryz.sizeOf48 trivial rfl rfl rfl (objV_one _ _ _ _ rfl rfl rfl) rfl rfl rfl rfl (.inl hb2) ?_
            refine TE_q rfl rfl (RD.assign rfl) rfl ?_
            refine TE_nil0 ?_
            refine pn_ret ?_
            have hrd : readO (stO b false) = ((⟨(oneM (stO b false)).1, [], [], (fun _ => 0), [], (⟨0, (fun _ => 0)⟩ : Lnk), ⟨#[]⟩⟩ : Ob), stO ys10 wr9) := (by simp only [readO, if_neg hc17, if_neg hc37, if_neg hc57, if_neg hc95, hg14])
            exact pn_doneF rfl ⟨objV (⟨0, [], [], (fun _ => 0), [], (⟨0, (fun _ => 0)⟩ : Lnk), ⟨#[]⟩⟩ : Ob) (.slice none 0 0) (.slice none 0 0) (.slice none 0 0), _, b2, 0, rfl, rfl, load_agg (i := 5) Tryz.isAgg48 Tryz.sizeOf48 rfl (Nat.le_of_ble_eq_true rfl) (obj_all _ _ _ _), ⟨_, _, rfl, rfl, rfl⟩⟩ (.inr ⟨parse_no hrd hc136, rfl, rfl⟩) (fun _ h => h.sp (fun _ => Nat.zero_le _)) (fun _ he => nomatch he)
          · simp only [Bool.not_eq_false', Bool.or_eq_false_iff, decide_eq_false_iff_not, decide_eq_true_eq] at hc136
            refine pn_skip ?_
            refine pn_seq ?_
            refine pn_plain [] rfl ?_
            refine TE_l rfl rfl trivial rfl (RD.loadA (i := 1) Tryz.isAgg48 Tryz.sizeOf48 rfl rfl (Nat.le_of_ble_eq_true rfl) (obj_all _ _ _ _)) rfl ?_
            refine TE_putCW 5 (objV (⟨0, [], [], (fun _ => 0), [], (⟨0, (fun _ => 0)⟩ : Lnk), ⟨#[]⟩⟩ : Ob) (.slice none 0 0) (.slice none 0 0) (.slice none 0 0)).cells (objV (⟨(oneM (stO b false)).1, [], [], (fun _ => 0), [], (⟨0, (fun _ => 0)⟩ : Lnk), ⟨#[]⟩⟩ : Ob) (.slice none 0 0) (.slice none 0 0) (.slice none 0 0)).cells ((b6, .cells #[.func (.func 66) #[] #[.pointer (some ⟨b4, 0, none⟩)]] 131 (0, 0)) :: (b5, .cells (objV (⟨(oneM (stO b false)).1, [], [], (fun _ => 0), [], (⟨0, (fun _ => 0)⟩ : Lnk), ⟨#[]⟩⟩ : Ob) (.slice none 0 0) (.slice none 0 0) (.slice none 0 0)).cells 48 (0, 0)) :: (b10, .cells #[.pointer (some ⟨s1, 0, none⟩), .bool wr9] 128 (0, 0)) :: (s1, .cells #[sv11] 180 (0, 0)) :: (b4, .cells #[.pointer (some ⟨b10, 0, none⟩)] 124 (0, 0)) :: (b2, .cells (objV (⟨(oneM (stO b false)).1, [], [], (fun _ => 0), [], (⟨0, (fun _ => 0)⟩ : Lnk), ⟨#[]⟩⟩ : Ob) (.slice none 0 0) (.slice none 0 0) (.slice none 0 0)).cells 48 (0, 0)) :: (HS3 ++ HX)) rfl Tryz.sizeOf48 trivial rfl rfl rfl (objV_one _ _ _ _ rfl rfl rfl) rfl rfl rfl rfl (.inl hb2) ?_
            refine TE_q rfl rfl (RD.assign rfl) rfl ?_
            refine TE_nil0 ?_
            refine pn_ret ?_
            have hrd : readO (stO b false) = ((⟨(oneM (stO b false)).1, [], [], (fun _ => 0), [], (⟨0, (fun _ => 0)⟩ : Lnk), ⟨#[]⟩⟩ : Ob), stO ys10 wr9) := (by simp only [readO, if_neg hc17, if_neg hc37, if_neg hc57, if_neg hc95, hg14])
            exact pn_doneF rfl ⟨objV (⟨(oneM (stO b false)).1, [], [], (fun _ => 0), [], (⟨0, (fun _ => 0)⟩ : Lnk), ⟨#[]⟩⟩ : Ob) (.slice none 0 0) (.slice none 0 0) (.slice none 0 0), _, b2, 0, rfl, rfl, load_agg (i := 5) Tryz.isAgg48 Tryz.sizeOf48 rfl (Nat.le_of_ble_eq_true rfl) (obj_all _ _ _ _), ⟨_, _, rfl, rfl, rfl⟩⟩ (.inl ⟨(⟨(oneM (stO b false)).1, [], [], (fun _ => 0), [], (⟨0, (fun _ => 0)⟩ : Lnk), ⟨#[]⟩⟩ : Ob), none, none, none, parse_ok hrd hc136, ok_k0 _, (show BldOk 1 (byteC) [] none from BldOk.nil), (show BldOk 34 (entC) [] none from BldOk.nil), (show BldOk 32 (idC) [] none from BldOk.nil), rfl, (show ([] : Mem) = _ from by simp [bldMx])⟩) (fun _ h => h.sp (fun _ => Nat.zero_le _)) (fun _ he => nomatch he)

end Go.Proofs.YtloljpefdecmhaaGreatDoor
