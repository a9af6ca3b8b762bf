/- Own work: a part of the proofs of this seat. -/
import Derived.Test.YtangcaaneobhnaaDoorProg
import Derived.Test.YtangcaaneobhnaaDoorShelf
import Derived.Test.YtangcaaneobhnaaDoorKwG2S
import Derived.KernelRfl
import Derived.Test.YtangcaaneobhnaaDoorKwG2W2
set_option linter.unusedVariables false
set_option linter.unusedSimpArgs false
set_option linter.unusedSectionVars false
set_option maxHeartbeats 8000000
namespace Go.Proofs
namespace YtangcaaneobhnaaDoor
open Go Go.KW Go.KW.S Go.RowKit
theorem law37_DeviceAnswers_ok (w0 : World) (hg : Gs w0) {ρA : Tags} (hbd : ∀ b, ρA b ≠ 0 → b < w0.heap.size) (hz : Gz ρA) {user_0 : Str} {id_1 : Str} {secret_2 : Str} {other_3 : Str} {until_4 : Int} {now_5 : Int} {r : Bool} (hS : law37_DeviceAnswers user_0 id_1 secret_2 other_3 until_4 now_5 = some r) :
    Calls Tryd.prog 6 #[str user_0, str id_1, str secret_2, str other_3, .int .i64 until_4, .int .i64 now_5] w0 (Ret (fun v w' => v = .bool r ∧ Below w0.heap.size w0 w')) := by
  unfold law37_DeviceAnswers at hS
  have hb := flat1_fr (ρ := ρA) (w := w0) hbd
  have hz := hz.flat1
  refine calls_of_ke Tryd.func6 rfl (n := 109) rfl rfl (l := [(0, str user_0), (1, str id_1), (2, str secret_2), (3, str other_3), (4, .int .i64 until_4), (5, .int .i64 now_5)]) rfl ?_
  refine ke_seq ?_
  refine ke_region ?_
  refine sr_ev (v := .bool false) (ev_assign rfl) (by decide) ?_
  refine sr_end (l' := [(0, str user_0), (1, str id_1), (2, str secret_2), (3, str other_3), (4, .int .i64 until_4), (5, .int .i64 now_5)]) (.cons rfl (.cons rfl (.cons rfl (.cons rfl (.cons rfl (.cons rfl (.nil _))))))) ?_
  refine ke_seq ?_
  refine ke_seq ?_
  refine ke_region ?_
  obtain ⟨y1, hy2, hS⟩ := bind_some' hS
  refine sr_call (vs := []) rfl Tryd.call8 rfl (law37_live_ok _ (hg.fr hz hb) (ρA := (flat1 ρA)) hb.bd (hz.fr hg hb) hy2) (by decide) ?_
  rintro _ w3 ⟨rfl, hbw4⟩
  have htr5 := Tr.of_below hbw4 hb.bd
  replace hb := hb.trans htr5
  refine sr_ev (v := .bool (!y1)) (ev_not rfl) (by decide) ?_
  refine sr_end (l' := [(0, str user_0), (1, str id_1), (2, str secret_2), (3, str other_3), (4, .int .i64 until_4), (5, .int .i64 now_5), (23, .bool (!y1))]) (.cons rfl (.cons rfl (.cons rfl (.cons rfl (.cons rfl (.cons rfl (.cons rfl (.nil _)))))))) ?_
  refine ke_cond (t := !y1) rfl (fun hc6 => ?_) (fun hc6 => ?_)
  · replace hS := ite_true' hS hc6
    refine ke_seq ?_
    refine ke_region ?_
    refine sr_ev (v := .bool false) (ev_assign rfl) (by decide) ?_
    refine sr_end (l' := [(12, .bool false)]) (.cons rfl (.nil _)) ?_
    cases hS
    exact ke_ret1 Tryd.func6 rfl rfl ⟨_, rfl, rfl, (hb.below (flat1_le _))⟩
  · replace hS := ite_false' hS hc6
    refine ke_skip ?_
    refine ke_seq ?_
    refine ke_seq ?_
    refine ke_region ?_
    refine sr_ev (v := str user_0) (ev_move rfl) (by decide) ?_
    refine sr_ev (v := str id_1) (ev_move rfl) (by decide) ?_
    refine sr_ev (v := str secret_2) (ev_move rfl) (by decide) ?_
    refine sr_ev (v := str other_3) (ev_move rfl) (by decide) ?_
    refine sr_litT (c := strC) (ρ := (flat1 ρA)) (E := 9) (xs := [user_0, id_1, secret_2, other_3]) (vs := #[(0, str user_0), (1, str id_1), (2, str secret_2), (3, str other_3)]) (cs := #[str user_0, str id_1, str secret_2, str other_3]) (css := [[str user_0], [str id_1], [str secret_2], [str other_3]]) rfl (fun _ => by kernel_rfl) rfl ⟨rfl, ⟨rfl, ⟨rfl, ⟨rfl, trivial⟩⟩⟩⟩ rfl (by decide) hb.bd (by decide) ?_
    intro v7 w9 h8 hbw11
    have htr10 := Tr.of_below hbw11 hb.bd
    replace hb := hb.trans htr10
    obtain ⟨y12, hy13, hS⟩ := bind_some' hS
    refine sr_call (vs := [v7, .int .i64 4, .int .i64 300]) rfl Tryd.call10 rfl (ref02_Great_ok _ (hg.fr hz hb) h8.asSl hy13) (by decide) ?_
    rintro _ w14 ⟨rfl, hbw15⟩
    have htr16 := Tr.of_below hbw15 hb.bd
    replace hb := hb.trans htr16
    refine sr_end (l' := [(0, str user_0), (1, str id_1), (2, str secret_2), (3, str other_3), (4, .int .i64 until_4), (5, .int .i64 now_5), (29, .bool y12)]) (.cons rfl (.cons rfl (.cons rfl (.cons rfl (.cons rfl (.cons rfl (.cons rfl (.nil _)))))))) ?_
    refine ke_cond (t := y12) rfl (fun hc17 => ?_) (fun hc17 => ?_)
    · replace hS := ite_true' hS hc17
      refine ke_seq ?_
      refine ke_region ?_
      refine sr_ev (v := .bool true) (ev_assign rfl) (by decide) ?_
      refine sr_end (l' := [(12, .bool true)]) (.cons rfl (.nil _)) ?_
      cases hS
      exact ke_ret1 Tryd.func6 rfl rfl ⟨_, rfl, rfl, (hb.below (flat1_le _))⟩
    · replace hS := ite_false' hS hc17
      refine ke_skip ?_
      refine ke_seq ?_
      refine ke_region ?_
      obtain ⟨y18, hy19, hS⟩ := bind_some' hS
      refine sr_call (vs := []) rfl Tryd.call16 rfl (device_New_ok _ (hg.fr hz hb) (ρA := (flat1 ρA)) hb.bd (hz.fr hg hb) (o := 100) (by decide) hy19) (by decide) ?_
      rintro _ w20 ⟨ρ27, g23, rfl, ⟨v24, hB26, h25⟩, htr22⟩
      replace hb := hb.trans htr22
      replace hB26 : Blk ρ27 100 w20 g23 (.cells #[v24, .int .i64 y18.given] 62 (0, 0)) := hB26
      replace h25 : MapT device_key.ek device_record.c true ρ27 101 w20 v24 y18.records := h25
      refine sr_ev (v := .pointer (some ⟨g23, 0, none⟩)) (ev_assign rfl) (by decide) ?_
      refine sr_end (l' := [(0, str user_0), (1, str id_1), (2, str secret_2), (3, str other_3), (4, .int .i64 until_4), (5, .int .i64 now_5), (13, .pointer (some ⟨g23, 0, none⟩))]) (.cons rfl (.cons rfl (.cons rfl (.cons rfl (.cons rfl (.cons rfl (.cons rfl (.nil _)))))))) ?_
      refine ke_seq ?_
      refine ke_seq ?_
      refine ke_region ?_
      refine sr_ev (v := .pointer (some ⟨g23, 0, none⟩)) (ev_move rfl) (by decide) ?_
      refine sr_ev (v := str user_0) (ev_move rfl) (by decide) ?_
      refine sr_ev (v := str id_1) (ev_move rfl) (by decide) ?_
      refine sr_ev (v := str secret_2) (ev_move rfl) (by decide) ?_
      refine sr_ev (v := .int .i64 until_4) (ev_move rfl) (by decide) ?_
      refine sr_ev (v := .int .i64 now_5) (ev_move rfl) (by decide) ?_
      obtain ⟨y28, hy29, hS⟩ := bind_some' hS
      refine sr_call (vs := [.pointer (some ⟨g23, 0, none⟩), str user_0, str id_1, str secret_2, .int .i64 until_4, .int .i64 now_5]) rfl Tryd.call17 rfl (device_Devices_Trust_ok _ (hg.fr hz hb) (ρA := ρ27) hb.bd (hz.fr hg hb) (o := 100) (by decide) (⟨_, hB26, h25⟩ : device_Devices.O (fun p => 100 + p) ρ27 w20 g23 y18) hy29) (by decide) ?_
      rintro _ w30 ⟨ρ36, rfl, ⟨v33, hB35, h34⟩, htr32⟩
      replace hb := hb.trans htr32
      replace hB35 : Blk ρ36 100 w30 g23 (.cells #[v33, .int .i64 y28.2.given] 62 (0, 0)) := hB35
      replace h34 : MapT device_key.ek device_record.c true ρ36 101 w30 v33 y28.2.records := h34
      refine sr_ev (v := .int .i64 y28.1) (ev_assign rfl) (by decide) ?_
      refine sr_end (l' := [(0, str user_0), (1, str id_1), (2, str secret_2), (3, str other_3), (5, .int .i64 now_5), (13, .pointer (some ⟨g23, 0, none⟩)), (14, .int .i64 y28.1)]) (.cons rfl (.cons rfl (.cons rfl (.cons rfl (.cons rfl (.cons rfl (.cons rfl (.nil _)))))))) ?_
      refine ke_seq ?_
      refine ke_region ?_
      refine sr_ev (v := .int .i64 y28.1) (ev_move rfl) (by decide) ?_
      refine sr_ev (v := .bool (y28.1 != 0)) (ev_ne rfl rfl) (by decide) ?_
      refine sr_end (l' := [(0, str user_0), (1, str id_1), (2, str secret_2), (3, str other_3), (5, .int .i64 now_5), (13, .pointer (some ⟨g23, 0, none⟩)), (39, .bool (y28.1 != 0))]) (.cons rfl (.cons rfl (.cons rfl (.cons rfl (.cons rfl (.cons rfl (.cons rfl (.nil _)))))))) ?_
      refine ke_cond (t := y28.1 != 0) rfl (fun hc37 => ?_) (fun hc37 => ?_)
      · replace hS := ite_true' hS hc37
        refine ke_seq ?_
        refine ke_region ?_
        refine sr_ev (v := str secret_2) (ev_move rfl) (by decide) ?_
        refine sr_ev (v := str other_3) (ev_move rfl) (by decide) ?_
        obtain ⟨y38, hy39, hS⟩ := bind_some' hS
        refine sr_call (vs := [str secret_2, str other_3]) rfl Tryd.call14 rfl (device_Answer_ok _ (hg.fr hz hb) hy39) (by decide) ?_
        rintro _ w40 ⟨rfl, hbw41⟩
        have htr42 := Tr.of_below hbw41 hb.bd
        replace hb := hb.trans htr42
        refine sr_ev (v := str secret_2) (ev_move rfl) (by decide) ?_
        refine sr_ev (v := str other_3) (ev_move rfl) (by decide) ?_
        obtain ⟨y43, hy44, hS⟩ := bind_some' hS
        refine sr_call (vs := [str secret_2, str other_3]) rfl Tryd.call25 rfl (digest_Mac_ok _ (hg.fr hz hb) hy44) (by decide) ?_
        rintro _ w45 ⟨rfl, hbw46⟩
        have htr47 := Tr.of_below hbw46 hb.bd
        replace hb := hb.trans htr47
        refine sr_ev (v := .bool (y38 == y43)) (ev_seq rfl rfl) (by decide) ?_
        refine sr_ev (v := .bool (y38 == y43)) (ev_assign rfl) (by decide) ?_
        refine sr_end (l' := [(12, .bool (y38 == y43))]) (.cons rfl (.nil _)) ?_
        cases hS
        exact ke_ret1 Tryd.func6 rfl rfl ⟨_, rfl, rfl, (hb.below (flat1_le _))⟩
      · replace hS := ite_false' hS hc37
        refine ke_skip ?_
        refine ke_seq ?_
        refine ke_region ?_
        refine sr_ev (v := .pointer (some ⟨g23, 0, none⟩)) (ev_move rfl) (by decide) ?_
        refine sr_ev (v := str user_0) (ev_move rfl) (by decide) ?_
        refine sr_ev (v := str id_1) (ev_move rfl) (by decide) ?_
        refine sr_ev (v := .int .i64 now_5) (ev_move rfl) (by decide) ?_
        obtain ⟨y48, hy49, hS⟩ := bind_some' hS
        refine sr_call (vs := [.pointer (some ⟨g23, 0, none⟩), str user_0, str id_1, .int .i64 now_5]) rfl Tryd.call12 rfl (device_Devices_Challenge_ok _ (hg.fr hz hb) (ρA := ρ36) hb.bd (hz.fr hg hb) (o := 100) (by decide) (⟨_, hB35, h34⟩ : device_Devices.O (fun p => 100 + p) ρ36 w30 g23 y28.2) hy49) (by decide) ?_
        rintro _ w50 ⟨ρ56, rfl, ⟨v53, hB55, h54⟩, htr52⟩
        replace hb := hb.trans htr52
        replace hB55 : Blk ρ56 100 w50 g23 (.cells #[v53, .int .i64 y48.2.2.given] 62 (0, 0)) := hB55
        replace h54 : MapT device_key.ek device_record.c true ρ56 101 w50 v53 y48.2.2.records := h54
        refine sr_ev (v := .tuple #[str y48.1, .int .i64 y48.2.1]) (ev_move rfl) (by decide) ?_
        refine sr_ev (v := str y48.1) (ev_extract rfl rfl) (by decide) ?_
        refine sr_ev (v := .int .i64 y48.2.1) (ev_extract rfl rfl) (by decide) ?_
        refine sr_ev (v := str y48.1) (ev_assign rfl) (by decide) ?_
        refine sr_ev (v := .int .i64 y48.2.1) (ev_assign rfl) (by decide) ?_
        refine sr_end (l' := [(0, str user_0), (1, str id_1), (2, str secret_2), (3, str other_3), (5, .int .i64 now_5), (13, .pointer (some ⟨g23, 0, none⟩)), (15, str y48.1), (16, .int .i64 y48.2.1)]) (.cons rfl (.cons rfl (.cons rfl (.cons rfl (.cons rfl (.cons rfl (.cons rfl (.cons rfl (.nil _))))))))) ?_
        refine ke_seq ?_
        refine ke_region ?_
        refine sr_ev (v := .pointer (some ⟨g23, 0, none⟩)) (ev_move rfl) (by decide) ?_
        refine sr_ev (v := str user_0) (ev_move rfl) (by decide) ?_
        refine sr_ev (v := str id_1) (ev_move rfl) (by decide) ?_
        refine sr_ev (v := str other_3) (ev_move rfl) (by decide) ?_
        refine sr_ev (v := str y48.1) (ev_move rfl) (by decide) ?_
        obtain ⟨y57, hy58, hS⟩ := bind_some' hS
        refine sr_call (vs := [str other_3, str y48.1]) rfl Tryd.call14 rfl (device_Answer_ok _ (hg.fr hz hb) hy58) (by decide) ?_
        rintro _ w59 ⟨rfl, hbw60⟩
        have htr61 := Tr.of_below hbw60 hb.bd
        replace hB55 := hB55.mv (htr61.mv (i := 100) rfl)
        replace h54 := h54.mv (htr61.mv (i := 101) rfl)
        replace hb := hb.trans htr61
        refine sr_ev (v := .int .i64 now_5) (ev_move rfl) (by decide) ?_
        obtain ⟨y62, hy63, hS⟩ := bind_some' hS
        refine sr_call (vs := [.pointer (some ⟨g23, 0, none⟩), str user_0, str id_1, str y57, .int .i64 now_5]) rfl Tryd.call15 rfl (device_Devices_Prove_ok _ (hg.fr hz hb) (ρA := ρ56) hb.bd (hz.fr hg hb) (o := 100) (by decide) (⟨_, hB55, h54⟩ : device_Devices.O (fun p => 100 + p) ρ56 w59 g23 y48.2.2) hy63) (by decide) ?_
        rintro _ w64 ⟨ρ70, rfl, ⟨v67, hB69, h68⟩, htr66⟩
        replace hb := hb.trans htr66
        replace hB69 : Blk ρ70 100 w64 g23 (.cells #[v67, .int .i64 y62.2.given] 62 (0, 0)) := hB69
        replace h68 : MapT device_key.ek device_record.c true ρ70 101 w64 v67 y62.2.records := h68
        refine sr_ev (v := .int .i64 y62.1) (ev_assign rfl) (by decide) ?_
        refine sr_end (l' := [(0, str user_0), (1, str id_1), (2, str secret_2), (3, str other_3), (5, .int .i64 now_5), (13, .pointer (some ⟨g23, 0, none⟩)), (15, str y48.1), (16, .int .i64 y48.2.1), (17, .int .i64 y62.1)]) (.cons rfl (.cons rfl (.cons rfl (.cons rfl (.cons rfl (.cons rfl (.cons rfl (.cons rfl (.cons rfl (.nil _)))))))))) ?_
        refine ke_seq ?_
        refine ke_region ?_
        refine sr_ev (v := str secret_2) (ev_move rfl) (by decide) ?_
        refine sr_ev (v := str y48.1) (ev_move rfl) (by decide) ?_
        obtain ⟨y71, hy72, hS⟩ := bind_some' hS
        refine sr_call (vs := [str secret_2, str y48.1]) rfl Tryd.call25 rfl (digest_Mac_ok _ (hg.fr hz hb) hy72) (by decide) ?_
        rintro _ w73 ⟨rfl, hbw74⟩
        have htr75 := Tr.of_below hbw74 hb.bd
        replace hB69 := hB69.mv (htr75.mv (i := 100) rfl)
        replace h68 := h68.mv (htr75.mv (i := 101) rfl)
        replace hb := hb.trans htr75
        refine sr_ev (v := str other_3) (ev_move rfl) (by decide) ?_
        refine sr_ev (v := str y48.1) (ev_move rfl) (by decide) ?_
        obtain ⟨y76, hy77, hS⟩ := bind_some' hS
        refine sr_call (vs := [str other_3, str y48.1]) rfl Tryd.call25 rfl (digest_Mac_ok _ (hg.fr hz hb) hy77) (by decide) ?_
        rintro _ w78 ⟨rfl, hbw79⟩
        have htr80 := Tr.of_below hbw79 hb.bd
        replace hB69 := hB69.mv (htr80.mv (i := 100) rfl)
        replace h68 := h68.mv (htr80.mv (i := 101) rfl)
        replace hb := hb.trans htr80
        refine sr_ev (v := .bool (y71 == y76)) (ev_seq rfl rfl) (by decide) ?_
        refine sr_ev (v := .bool (y71 == y76)) (ev_assign rfl) (by decide) ?_
        refine sr_end (l' := [(0, str user_0), (1, str id_1), (2, str secret_2), (5, .int .i64 now_5), (13, .pointer (some ⟨g23, 0, none⟩)), (16, .int .i64 y48.2.1), (17, .int .i64 y62.1), (18, .bool (y71 == y76))]) (.cons rfl (.cons rfl (.cons rfl (.cons rfl (.cons rfl (.cons rfl (.cons rfl (.cons rfl (.nil _))))))))) ?_
        refine ke_seq ?_
        refine ke_region ?_
        refine sr_ev (v := .pointer (some ⟨g23, 0, none⟩)) (ev_move rfl) (by decide) ?_
        refine sr_ev (v := str user_0) (ev_move rfl) (by decide) ?_
        refine sr_ev (v := str id_1) (ev_move rfl) (by decide) ?_
        refine sr_ev (v := .int .i64 now_5) (ev_move rfl) (by decide) ?_
        obtain ⟨y81, hy82, hS⟩ := bind_some' hS
        refine sr_call (vs := [.pointer (some ⟨g23, 0, none⟩), str user_0, str id_1, .int .i64 now_5]) rfl Tryd.call12 rfl (device_Devices_Challenge_ok _ (hg.fr hz hb) (ρA := ρ70) hb.bd (hz.fr hg hb) (o := 100) (by decide) (⟨_, hB69, h68⟩ : device_Devices.O (fun p => 100 + p) ρ70 w78 g23 y62.2) hy82) (by decide) ?_
        rintro _ w83 ⟨ρ89, rfl, ⟨v86, hB88, h87⟩, htr85⟩
        replace hb := hb.trans htr85
        replace hB88 : Blk ρ89 100 w83 g23 (.cells #[v86, .int .i64 y81.2.2.given] 62 (0, 0)) := hB88
        replace h87 : MapT device_key.ek device_record.c true ρ89 101 w83 v86 y81.2.2.records := h87
        refine sr_ev (v := .tuple #[str y81.1, .int .i64 y81.2.1]) (ev_move rfl) (by decide) ?_
        refine sr_ev (v := str y81.1) (ev_extract rfl rfl) (by decide) ?_
        refine sr_ev (v := .int .i64 y81.2.1) (ev_extract rfl rfl) (by decide) ?_
        refine sr_ev (v := str y81.1) (ev_assign rfl) (by decide) ?_
        refine sr_ev (v := .int .i64 y81.2.1) (ev_assign rfl) (by decide) ?_
        refine sr_end (l' := [(0, str user_0), (1, str id_1), (2, str secret_2), (5, .int .i64 now_5), (13, .pointer (some ⟨g23, 0, none⟩)), (16, .int .i64 y48.2.1), (17, .int .i64 y62.1), (18, .bool (y71 == y76)), (19, str y81.1), (20, .int .i64 y81.2.1)]) (.cons rfl (.cons rfl (.cons rfl (.cons rfl (.cons rfl (.cons rfl (.cons rfl (.cons rfl (.cons rfl (.cons rfl (.nil _))))))))))) ?_
        refine ke_seq ?_
        refine ke_region ?_
        refine sr_ev (v := .pointer (some ⟨g23, 0, none⟩)) (ev_move rfl) (by decide) ?_
        refine sr_ev (v := str user_0) (ev_move rfl) (by decide) ?_
        refine sr_ev (v := str id_1) (ev_move rfl) (by decide) ?_
        refine sr_ev (v := str secret_2) (ev_move rfl) (by decide) ?_
        refine sr_ev (v := str y81.1) (ev_move rfl) (by decide) ?_
        obtain ⟨y90, hy91, hS⟩ := bind_some' hS
        refine sr_call (vs := [str secret_2, str y81.1]) rfl Tryd.call14 rfl (device_Answer_ok _ (hg.fr hz hb) hy91) (by decide) ?_
        rintro _ w92 ⟨rfl, hbw93⟩
        have htr94 := Tr.of_below hbw93 hb.bd
        replace hB88 := hB88.mv (htr94.mv (i := 100) rfl)
        replace h87 := h87.mv (htr94.mv (i := 101) rfl)
        replace hb := hb.trans htr94
        refine sr_ev (v := .int .i64 now_5) (ev_move rfl) (by decide) ?_
        obtain ⟨y95, hy96, hS⟩ := bind_some' hS
        refine sr_call (vs := [.pointer (some ⟨g23, 0, none⟩), str user_0, str id_1, str y90, .int .i64 now_5]) rfl Tryd.call15 rfl (device_Devices_Prove_ok _ (hg.fr hz hb) (ρA := ρ89) hb.bd (hz.fr hg hb) (o := 100) (by decide) (⟨_, hB88, h87⟩ : device_Devices.O (fun p => 100 + p) ρ89 w92 g23 y81.2.2) hy96) (by decide) ?_
        rintro _ w97 ⟨ρ103, rfl, ⟨v100, hB102, h101⟩, htr99⟩
        replace hb := hb.trans htr99
        replace hB102 : Blk ρ103 100 w97 g23 (.cells #[v100, .int .i64 y95.2.given] 62 (0, 0)) := hB102
        replace h101 : MapT device_key.ek device_record.c true ρ103 101 w97 v100 y95.2.records := h101
        refine sr_ev (v := .int .i64 y95.1) (ev_assign rfl) (by decide) ?_
        refine sr_end (l' := [(16, .int .i64 y48.2.1), (17, .int .i64 y62.1), (18, .bool (y71 == y76)), (20, .int .i64 y81.2.1), (21, .int .i64 y95.1)]) (.cons rfl (.cons rfl (.cons rfl (.cons rfl (.cons rfl (.nil _)))))) ?_
        refine ke_seq ?_
        refine ke_region ?_
        refine sr_ev (v := .int .i64 y48.2.1) (ev_move rfl) (by decide) ?_
        refine sr_ev (v := .bool (y48.2.1 == 0)) (ev_eq rfl rfl) (by decide) ?_
        refine sr_ev (v := .bool (y48.2.1 == 0)) (ev_move rfl) (by decide) ?_
        refine sr_join (m := 5) (C := fun (x : Bool) w1 => x = ((y48.2.1 == 0) && ((y62.1 == 0) == (y71 == y76))) ∧ w97 = w1) (l' := fun x => [(17, .int .i64 y62.1), (18, .bool (y71 == y76)), (20, .int .i64 y81.2.1), (21, .int .i64 y95.1), (93, .bool x)]) ?_ ?_
        · rintro _ _ ⟨rfl, rfl⟩
          refine sr_ev (v := .bool ((y48.2.1 == 0) && ((y62.1 == 0) == (y71 == y76)))) (ev_move rfl) (by decide) ?_
          refine sr_join (m := 6) (C := fun (x : Bool) w1 => x = (((y48.2.1 == 0) && ((y62.1 == 0) == (y71 == y76))) && ((y71 == y76) || (y62.1 == 11))) ∧ w97 = w1) (l' := fun x => [(20, .int .i64 y81.2.1), (21, .int .i64 y95.1), (100, .bool x)]) ?_ ?_
          · rintro _ _ ⟨rfl, rfl⟩
            refine sr_ev (v := .bool (((y48.2.1 == 0) && ((y62.1 == 0) == (y71 == y76))) && ((y71 == y76) || (y62.1 == 11)))) (ev_move rfl) (by decide) ?_
            refine sr_join (m := 3) (C := fun (x : Bool) w1 => x = ((((y48.2.1 == 0) && ((y62.1 == 0) == (y71 == y76))) && ((y71 == y76) || (y62.1 == 11))) && (y81.2.1 == 0)) ∧ w97 = w1) (l' := fun x => [(21, .int .i64 y95.1), (104, .bool x)]) ?_ ?_
            · rintro _ _ ⟨rfl, rfl⟩
              refine sr_ev (v := .bool ((((y48.2.1 == 0) && ((y62.1 == 0) == (y71 == y76))) && ((y71 == y76) || (y62.1 == 11))) && (y81.2.1 == 0))) (ev_move rfl) (by decide) ?_
              refine sr_join (m := 3) (C := fun (x : Bool) w1 => x = (((((y48.2.1 == 0) && ((y62.1 == 0) == (y71 == y76))) && ((y71 == y76) || (y62.1 == 11))) && (y81.2.1 == 0)) && (y95.1 == 0)) ∧ w97 = w1) (l' := fun x => [(108, .bool x)]) ?_ ?_
              · rintro _ _ ⟨rfl, rfl⟩
                refine sr_ev (v := .bool (((((y48.2.1 == 0) && ((y62.1 == 0) == (y71 == y76))) && ((y71 == y76) || (y62.1 == 11))) && (y81.2.1 == 0)) && (y95.1 == 0))) (ev_assign rfl) (by decide) ?_
                refine sr_end (l' := [(12, .bool (((((y48.2.1 == 0) && ((y62.1 == 0) == (y71 == y76))) && ((y71 == y76) || (y62.1 == 11))) && (y81.2.1 == 0)) && (y95.1 == 0)))]) (.cons rfl (.nil _)) ?_
                cases hS
                exact ke_ret1 Tryd.func6 rfl rfl ⟨_, rfl, rfl, (hb.below (flat1_le _))⟩
              · intro K137
                rcases Bool.eq_false_or_eq_true ((((y48.2.1 == 0) && ((y62.1 == 0) == (y71 == y76))) && ((y71 == y76) || (y62.1 == 11))) && (y81.2.1 == 0)) with hg136 | hg136
                all_goals try have hj139 : Tr ρ103 w97 (fun _ => false) ρ103 w97 := Tr.refl hb.bd
                · refine sr_evg (b := true) (e := 105) rfl rfl hg136 (v := .int .i64 y95.1) (ev_move rfl) (by decide) ?_
                  refine sr_evg (b := true) (e := 105) rfl rfl hg136 (v := .bool (y95.1 == 0)) (ev_eq rfl rfl) (by decide) ?_
                  refine sr_ev (v := .bool (y95.1 == 0)) (ev_pick_t rfl hg136 rfl) (by decide) ?_
                  exact sr_weaken (l' := [(108, .bool (y95.1 == 0))]) (.cons rfl (.nil _)) (K137 (y95.1 == 0) _ ⟨by rw [hg136]; rfl, rfl⟩)
                · refine sr_pass (e := 105) rfl rfl (by rw [hg136]; rfl) (by decide) ?_
                  refine sr_pass (e := 105) rfl rfl (by rw [hg136]; rfl) (by decide) ?_
                  refine sr_ev (v := .bool false) (ev_pick_f rfl hg136 rfl) (by decide) ?_
                  exact sr_weaken (l' := [(108, .bool false)]) (.cons rfl (.nil _)) (K137 false _ ⟨by rw [hg136]; rfl, rfl⟩)
            · intro K129
              rcases Bool.eq_false_or_eq_true (((y48.2.1 == 0) && ((y62.1 == 0) == (y71 == y76))) && ((y71 == y76) || (y62.1 == 11))) with hg128 | hg128
              all_goals try have hj131 : Tr ρ103 w97 (fun _ => false) ρ103 w97 := Tr.refl hb.bd
              · refine sr_evg (b := true) (e := 101) rfl rfl hg128 (v := .int .i64 y81.2.1) (ev_move rfl) (by decide) ?_
                refine sr_evg (b := true) (e := 101) rfl rfl hg128 (v := .bool (y81.2.1 == 0)) (ev_eq rfl rfl) (by decide) ?_
                refine sr_ev (v := .bool (y81.2.1 == 0)) (ev_pick_t rfl hg128 rfl) (by decide) ?_
                exact sr_weaken (l' := [(21, .int .i64 y95.1), (104, .bool (y81.2.1 == 0))]) (.cons rfl (.cons rfl (.nil _))) (K129 (y81.2.1 == 0) _ ⟨by rw [hg128]; rfl, rfl⟩)
              · refine sr_pass (e := 101) rfl rfl (by rw [hg128]; rfl) (by decide) ?_
                refine sr_pass (e := 101) rfl rfl (by rw [hg128]; rfl) (by decide) ?_
                refine sr_ev (v := .bool false) (ev_pick_f rfl hg128 rfl) (by decide) ?_
                exact sr_weaken (l' := [(21, .int .i64 y95.1), (104, .bool false)]) (.cons rfl (.cons rfl (.nil _))) (K129 false _ ⟨by rw [hg128]; rfl, rfl⟩)
          · intro K113
            rcases Bool.eq_false_or_eq_true ((y48.2.1 == 0) && ((y62.1 == 0) == (y71 == y76))) with hg112 | hg112
            all_goals try have hj115 : Tr ρ103 w97 (fun _ => false) ρ103 w97 := Tr.refl hb.bd
            · refine sr_evg (b := true) (e := 94) rfl rfl hg112 (v := .bool (y71 == y76)) (ev_move rfl) (by decide) ?_
              refine sr_evg (b := true) (e := 94) rfl rfl hg112 (v := .bool (y71 == y76)) (ev_move rfl) (by decide) ?_
              refine sr_join (m := 3) (C := fun (x : Bool) w1 => x = ((y71 == y76) || (y62.1 == 11)) ∧ w97 = w1) (l' := fun x => [(20, .int .i64 y81.2.1), (21, .int .i64 y95.1), (94, .bool ((y48.2.1 == 0) && ((y62.1 == 0) == (y71 == y76)))), (99, .bool x)]) ?_ ?_
              · rintro _ _ ⟨rfl, rfl⟩
                refine sr_ev (v := .bool ((y71 == y76) || (y62.1 == 11))) (ev_pick_t rfl hg112 rfl) (by decide) ?_
                exact sr_weaken (l' := [(20, .int .i64 y81.2.1), (21, .int .i64 y95.1), (100, .bool ((y71 == y76) || (y62.1 == 11)))]) (.cons rfl (.cons rfl (.cons rfl (.nil _)))) (K113 ((y71 == y76) || (y62.1 == 11)) _ ⟨by rw [hg112]; rfl, rfl⟩)
              · intro K121
                rcases Bool.eq_false_or_eq_true (y71 == y76) with hg120 | hg120
                all_goals try have hj123 : Tr ρ103 w97 (fun _ => false) ρ103 w97 := Tr.refl hb.bd
                · refine sr_pass (e := 96) rfl rfl (by rw [hg120]; rfl) (by decide) ?_
                  refine sr_pass (e := 96) rfl rfl (by rw [hg120]; rfl) (by decide) ?_
                  refine sr_evg (b := true) (e := 94) rfl rfl hg112 (v := .bool true) (ev_pick_t rfl hg120 rfl) (by decide) ?_
                  exact sr_weaken (l' := [(20, .int .i64 y81.2.1), (21, .int .i64 y95.1), (94, .bool ((y48.2.1 == 0) && ((y62.1 == 0) == (y71 == y76)))), (99, .bool true)]) (.cons rfl (.cons rfl (.cons rfl (.cons rfl (.nil _))))) (K121 true _ ⟨by rw [hg120]; rfl, rfl⟩)
                · refine sr_evg (b := false) (e := 96) rfl rfl hg120 (v := .int .i64 y62.1) (ev_move rfl) (by decide) ?_
                  refine sr_evg (b := false) (e := 96) rfl rfl hg120 (v := .bool (y62.1 == 11)) (ev_eq rfl rfl) (by decide) ?_
                  refine sr_evg (b := true) (e := 94) rfl rfl hg112 (v := .bool (y62.1 == 11)) (ev_pick_f rfl hg120 rfl) (by decide) ?_
                  exact sr_weaken (l' := [(20, .int .i64 y81.2.1), (21, .int .i64 y95.1), (94, .bool ((y48.2.1 == 0) && ((y62.1 == 0) == (y71 == y76)))), (99, .bool (y62.1 == 11))]) (.cons rfl (.cons rfl (.cons rfl (.cons rfl (.nil _))))) (K121 (y62.1 == 11) _ ⟨by rw [hg120]; rfl, rfl⟩)
            · refine sr_pass (e := 94) rfl rfl (by rw [hg112]; rfl) (by decide) ?_
              refine sr_pass (e := 94) rfl rfl (by rw [hg112]; rfl) (by decide) ?_
              refine sr_pass_undef (e := 96) rfl rfl (by decide) ?_
              refine sr_pass_undef (e := 96) rfl rfl (by decide) ?_
              refine sr_pass (e := 94) rfl rfl (by rw [hg112]; rfl) (by decide) ?_
              refine sr_ev (v := .bool false) (ev_pick_f rfl hg112 rfl) (by decide) ?_
              exact sr_weaken (l' := [(20, .int .i64 y81.2.1), (21, .int .i64 y95.1), (100, .bool false)]) (.cons rfl (.cons rfl (.cons rfl (.nil _)))) (K113 false _ ⟨by rw [hg112]; rfl, rfl⟩)
        · intro K105
          rcases Bool.eq_false_or_eq_true (y48.2.1 == 0) with hg104 | hg104
          all_goals try have hj107 : Tr ρ103 w97 (fun _ => false) ρ103 w97 := Tr.refl hb.bd
          · refine sr_evg (b := true) (e := 88) rfl rfl hg104 (v := .int .i64 y62.1) (ev_move rfl) (by decide) ?_
            refine sr_evg (b := true) (e := 88) rfl rfl hg104 (v := .bool (y62.1 == 0)) (ev_eq rfl rfl) (by decide) ?_
            refine sr_evg (b := true) (e := 88) rfl rfl hg104 (v := .bool (y71 == y76)) (ev_move rfl) (by decide) ?_
            refine sr_evg (b := true) (e := 88) rfl rfl hg104 (v := .bool ((y62.1 == 0) == (y71 == y76))) (ev_beq Tryd.underlying4 rfl rfl) (by decide) ?_
            refine sr_ev (v := .bool ((y62.1 == 0) == (y71 == y76))) (ev_pick_t rfl hg104 rfl) (by decide) ?_
            exact sr_weaken (l' := [(17, .int .i64 y62.1), (18, .bool (y71 == y76)), (20, .int .i64 y81.2.1), (21, .int .i64 y95.1), (93, .bool ((y62.1 == 0) == (y71 == y76)))]) (.cons rfl (.cons rfl (.cons rfl (.cons rfl (.cons rfl (.nil _)))))) (K105 ((y62.1 == 0) == (y71 == y76)) _ ⟨by rw [hg104]; rfl, rfl⟩)
          · refine sr_pass (e := 88) rfl rfl (by rw [hg104]; rfl) (by decide) ?_
            refine sr_pass (e := 88) rfl rfl (by rw [hg104]; rfl) (by decide) ?_
            refine sr_pass (e := 88) rfl rfl (by rw [hg104]; rfl) (by decide) ?_
            refine sr_pass (e := 88) rfl rfl (by rw [hg104]; rfl) (by decide) ?_
            refine sr_ev (v := .bool false) (ev_pick_f rfl hg104 rfl) (by decide) ?_
            exact sr_weaken (l' := [(17, .int .i64 y62.1), (18, .bool (y71 == y76)), (20, .int .i64 y81.2.1), (21, .int .i64 y95.1), (93, .bool false)]) (.cons rfl (.cons rfl (.cons rfl (.cons rfl (.cons rfl (.nil _)))))) (K105 false _ ⟨by rw [hg104]; rfl, rfl⟩)
theorem clock_limited_ok (w0 : World) (hg : Gs w0) {t_0 : Int} {r : Int} (hS : clock_limited t_0 = some r) :
    Calls Tryd.prog 38 #[.int .i64 t_0] w0 (Ret (fun v w' => v = .int .i64 r ∧ Below w0.heap.size w0 w')) := by
  unfold clock_limited at hS
  have hb := Below.refl w0.heap.size w0
  refine calls_of_ke Tryd.func38 rfl (n := 6) rfl rfl (l := [(0, .int .i64 t_0)]) rfl ?_
  refine ke_seq ?_
  refine ke_region ?_
  refine sr_ev (v := .int .i64 0) (ev_assign rfl) (by decide) ?_
  refine sr_end (l' := [(0, .int .i64 t_0)]) (.cons rfl (.nil _)) ?_
  refine ke_seq ?_
  refine ke_region ?_
  refine sr_ev (v := .int .i64 t_0) (ev_move rfl) (by decide) ?_
  refine sr_ev (v := .int .i64 (gmax t_0 0)) (ev_max rfl rfl) (by decide) ?_
  refine sr_ev (v := .int .i64 (gmin (gmax t_0 0) 1099511627776)) (ev_min rfl rfl) (by decide) ?_
  refine sr_ev (v := .int .i64 (gmin (gmax t_0 0) 1099511627776)) (ev_assign rfl) (by decide) ?_
  refine sr_end (l' := [(2, .int .i64 (gmin (gmax t_0 0) 1099511627776))]) (.cons rfl (.nil _)) ?_
  cases hS
  exact ke_ret1 Tryd.func38 rfl rfl ⟨_, rfl, rfl, hb⟩
theorem clock_Add_ok (w0 : World) (hg : Gs w0) {t_0 : Int} {d_1 : Int} {r : Int} (hS : clock_Add t_0 d_1 = some r) :
    Calls Tryd.prog 26 #[.int .i64 t_0, .int .i64 d_1] w0 (Ret (fun v w' => v = .int .i64 r ∧ Below w0.heap.size w0 w')) := by
  unfold clock_Add at hS
  have hb := Below.refl w0.heap.size w0
  refine calls_of_ke Tryd.func26 rfl (n := 11) rfl rfl (l := [(0, .int .i64 t_0), (1, .int .i64 d_1)]) rfl ?_
  refine ke_seq ?_
  refine ke_region ?_
  refine sr_ev (v := .int .i64 0) (ev_assign rfl) (by decide) ?_
  refine sr_end (l' := [(0, .int .i64 t_0), (1, .int .i64 d_1)]) (.cons rfl (.cons rfl (.nil _))) ?_
  refine ke_seq ?_
  refine ke_region ?_
  refine sr_ev (v := .int .i64 t_0) (ev_move rfl) (by decide) ?_
  obtain ⟨y1, hy2, hS⟩ := bind_some' hS
  refine sr_call (vs := [.int .i64 t_0]) rfl Tryd.call38 rfl (clock_limited_ok _ (hg.below hb) hy2) (by decide) ?_
  rintro _ w3 ⟨rfl, hbw4⟩
  replace hb := hb.trans (hbw4.mono hb.size)
  refine sr_ev (v := .int .i64 d_1) (ev_move rfl) (by decide) ?_
  obtain ⟨y5, hy6, hS⟩ := bind_some' hS
  refine sr_call (vs := [.int .i64 d_1]) rfl Tryd.call38 rfl (clock_limited_ok _ (hg.below hb) hy6) (by decide) ?_
  rintro _ w7 ⟨rfl, hbw8⟩
  replace hb := hb.trans (hbw8.mono hb.size)
  refine sr_ev (v := .int .i64 (IntKind.i64.wrap (y1 + y5))) (ev_add rfl rfl) (by decide) ?_
  obtain ⟨y9, hy10, hS⟩ := bind_some' hS
  refine sr_call (vs := [.int .i64 (IntKind.i64.wrap (y1 + y5))]) rfl Tryd.call38 rfl (clock_limited_ok _ (hg.below hb) hy10) (by decide) ?_
  rintro _ w11 ⟨rfl, hbw12⟩
  replace hb := hb.trans (hbw12.mono hb.size)
  refine sr_ev (v := .int .i64 y9) (ev_assign rfl) (by decide) ?_
  refine sr_end (l' := [(4, .int .i64 y9)]) (.cons rfl (.nil _)) ?_
  cases hS
  exact ke_ret1 Tryd.func26 rfl rfl ⟨_, rfl, rfl, hb⟩
theorem law37_DeviceLasts_ok (w0 : World) (hg : Gs w0) {ρA : Tags} (hbd : ∀ b, ρA b ≠ 0 → b < w0.heap.size) (hz : Gz ρA) {ops_0 : List law37_Op} {o_1 : law37_Op} {user_2 : Str} {id_3 : Str} {t_4 : Int} {v1 : Value} {r : Bool} (h2 : SlR law37_Op.c (Wb ρA) w0 v1 ops_0) (hS : law37_DeviceLasts ops_0 o_1 user_2 id_3 t_4 = some r) :
    Calls Tryd.prog 7 #[v1, .agg #[.int .i64 o_1.Kind, str o_1.User, str o_1.ID, str o_1.Secret, .int .i64 o_1.Until, .int .i64 o_1.Now], str user_2, str id_3, .int .i64 t_4] w0 (Ret (fun v w' => v = .bool r ∧ Below w0.heap.size w0 w')) := by
  unfold law37_DeviceLasts at hS
  have hb := flat1_fr (ρ := ρA) (w := w0) hbd
  have hz := hz.flat1
  replace h2 := SlR.mv h2 flat1_rd
  refine calls_of_ke Tryd.func7 rfl (n := 80) rfl rfl (l := [(0, v1), (1, .agg #[.int .i64 o_1.Kind, str o_1.User, str o_1.ID, str o_1.Secret, .int .i64 o_1.Until, .int .i64 o_1.Now]), (2, str user_2), (3, str id_3), (4, .int .i64 t_4)]) rfl ?_
  refine ke_seq ?_
  refine ke_region ?_
  refine sr_boxT 8 (by decide) hb.bd rfl (by decide) ?_
  intro g3 ρ4 w5 hB7 htr6
  replace h2 := h2.mv htr6.rd
  replace hb := hb.trans htr6
  replace hB7 : Blk ρ4 8 w5 g3 (.cells #[.int .i64 o_1.Kind, str o_1.User, str o_1.ID, str o_1.Secret, .int .i64 o_1.Until, .int .i64 o_1.Now] 39 (0, 0)) := hB7
  refine sr_ev (v := .bool false) (ev_assign rfl) (by decide) ?_
  refine sr_end (l' := [(0, v1), (2, str user_2), (3, str id_3), (4, .int .i64 t_4), (6, .pointer (some ⟨g3, 0, none⟩))]) (.cons rfl (.cons rfl (.cons rfl (.cons rfl (.cons rfl (.nil _)))))) ?_
  refine ke_seq ?_
  refine ke_seq ?_
  refine ke_region ?_
  obtain ⟨y8, hy9, hS⟩ := bind_some' hS
  refine sr_call (vs := []) rfl Tryd.call8 rfl (law37_live_ok _ (hg.fr hz hb) (ρA := ρ4) hb.bd (hz.fr hg hb) hy9) (by decide) ?_
  rintro _ w10 ⟨rfl, hbw11⟩
  have htr12 := Tr.of_below hbw11 hb.bd
  replace h2 := h2.mv htr12.rd
  replace hB7 := hB7.mv (htr12.mv (i := 8) rfl)
  replace hb := hb.trans htr12
  refine sr_ev (v := .bool (!y8)) (ev_not rfl) (by decide) ?_
  refine sr_end (l' := [(0, v1), (2, str user_2), (3, str id_3), (4, .int .i64 t_4), (6, .pointer (some ⟨g3, 0, none⟩)), (16, .bool (!y8))]) (.cons rfl (.cons rfl (.cons rfl (.cons rfl (.cons rfl (.cons rfl (.nil _))))))) ?_
  refine ke_cond (t := !y8) rfl (fun hc13 => ?_) (fun hc13 => ?_)
  · replace hS := ite_true' hS hc13
    refine ke_seq ?_
    refine ke_region ?_
    refine sr_ev (v := .bool false) (ev_assign rfl) (by decide) ?_
    refine sr_end (l' := [(10, .bool false)]) (.cons rfl (.nil _)) ?_
    cases hS
    exact ke_ret1 Tryd.func7 rfl rfl ⟨_, rfl, rfl, (hb.below (flat1_le _))⟩
  · replace hS := ite_false' hS hc13
    refine ke_skip ?_
    refine ke_seq ?_
    refine ke_seq ?_
    refine ke_region ?_
    refine sr_ev (v := v1) (ev_move rfl) (by decide) ?_
    obtain ⟨y14, hy15, hS⟩ := bind_some' hS
    refine sr_call (vs := [v1, .int .i64 20]) rfl Tryd.call9 rfl (law37_long_ok _ (hg.fr hz hb) (ρA := ρ4) hb.bd (hz.fr hg hb) h2 hy15) (by decide) ?_
    rintro _ w16 ⟨rfl, hbw17⟩
    have htr18 := Tr.of_below hbw17 hb.bd
    replace h2 := h2.mv htr18.rd
    replace hB7 := hB7.mv (htr18.mv (i := 8) rfl)
    replace hb := hb.trans htr18
    refine sr_ev (v := .bool y14) (ev_move rfl) (by decide) ?_
    obtain ⟨z21, hz23, hS⟩ := bind_some' hS
    refine sr_join (m := 4) (C := fun (z : Bool) w1 => z21 = z ∧ ∃ ρ1, Tr ρ4 w16 (fun _ => false) ρ1 w1) (l' := fun z => [(0, v1), (2, str user_2), (3, str id_3), (4, .int .i64 t_4), (6, .pointer (some ⟨g3, 0, none⟩)), (23, .bool z)]) ?_ ?_
    · rintro _ w24 ⟨rfl, ρ25, hj22⟩
      replace h2 := h2.mv hj22.rd
      replace hB7 := hB7.mv (hj22.mv (i := 8) rfl)
      replace hb := hb.trans hj22
      refine sr_ev (v := .bool z21) (ev_move rfl) (by decide) ?_
      obtain ⟨z39, hz41, hS⟩ := bind_some' hS
      refine sr_join (m := 5) (C := fun (z : Bool) w1 => z39 = z ∧ ∃ ρ1, Tr ρ25 w24 (fun _ => false) ρ1 w1) (l' := fun z => [(0, v1), (2, str user_2), (3, str id_3), (4, .int .i64 t_4), (6, .pointer (some ⟨g3, 0, none⟩)), (29, .bool z)]) ?_ ?_
      · rintro _ w42 ⟨rfl, ρ43, hj40⟩
        replace h2 := h2.mv hj40.rd
        replace hB7 := hB7.mv (hj40.mv (i := 8) rfl)
        replace hb := hb.trans hj40
        refine sr_end (l' := [(0, v1), (2, str user_2), (3, str id_3), (4, .int .i64 t_4), (6, .pointer (some ⟨g3, 0, none⟩)), (29, .bool z39)]) (.cons rfl (.cons rfl (.cons rfl (.cons rfl (.cons rfl (.cons rfl (.nil _))))))) ?_
        refine ke_cond (t := z39) rfl (fun hc55 => ?_) (fun hc55 => ?_)
        · replace hS := ite_true' hS hc55
          refine ke_seq ?_
          refine ke_region ?_
          refine sr_ev (v := .bool true) (ev_assign rfl) (by decide) ?_
          refine sr_end (l' := [(10, .bool true)]) (.cons rfl (.nil _)) ?_
          cases hS
          exact ke_ret1 Tryd.func7 rfl rfl ⟨_, rfl, rfl, (hb.below (flat1_le _))⟩
        · replace hS := ite_false' hS hc55
          refine ke_skip ?_
          refine ke_seq ?_
          refine ke_region ?_
          refine sr_ev (v := v1) (ev_move rfl) (by decide) ?_
          obtain ⟨y56, hy57, hS⟩ := bind_some' hS
          refine sr_call (vs := [v1]) rfl Tryd.call11 rfl (law37_run_ok _ (hg.fr hz hb) (ρA := ρ43) hb.bd (hz.fr hg hb) (o := 100) (by decide) h2 hy57) (by decide) ?_
          rintro _ w58 ⟨ρ65, g61, rfl, ⟨v62, hB64, h63⟩, htr60⟩
          replace hB7 := hB7.mv (htr60.mv (i := 8) rfl)
          replace hb := hb.trans htr60
          replace hB64 : Blk ρ65 100 w58 g61 (.cells #[v62, .int .i64 y56.1.given] 62 (0, 0)) := hB64
          replace h63 : MapT device_key.ek device_record.c true ρ65 101 w58 v62 y56.1.records := h63
          refine sr_ev (v := .tuple #[.pointer (some ⟨g61, 0, none⟩), str y56.2]) (ev_move rfl) (by decide) ?_
          refine sr_ev (v := .pointer (some ⟨g61, 0, none⟩)) (ev_extract rfl rfl) (by decide) ?_
          refine sr_ev (v := str y56.2) (ev_extract rfl rfl) (by decide) ?_
          refine sr_ev (v := .pointer (some ⟨g61, 0, none⟩)) (ev_assign rfl) (by decide) ?_
          refine sr_ev (v := str y56.2) (ev_assign rfl) (by decide) ?_
          refine sr_end (l' := [(2, str user_2), (3, str id_3), (4, .int .i64 t_4), (6, .pointer (some ⟨g3, 0, none⟩)), (11, .pointer (some ⟨g61, 0, none⟩))]) (.cons rfl (.cons rfl (.cons rfl (.cons rfl (.cons rfl (.nil _)))))) ?_
          refine ke_seq ?_
          refine ke_region ?_
          refine sr_ev (v := .pointer (some ⟨g61, 0, none⟩)) (ev_move rfl) (by decide) ?_
          refine sr_ev (v := str user_2) (ev_move rfl) (by decide) ?_
          refine sr_ev (v := str id_3) (ev_move rfl) (by decide) ?_
          refine sr_ev (v := .int .i64 t_4) (ev_move rfl) (by decide) ?_
          obtain ⟨y66, hy67, hS⟩ := bind_some' hS
          refine sr_call (vs := [.pointer (some ⟨g61, 0, none⟩), str user_2, str id_3, .int .i64 t_4]) rfl Tryd.call13 rfl (device_Devices_Trusted_ok _ (hg.fr hz hb) (ρA := ρ65) hb.bd (hz.fr hg hb) (τ0 := (fun p => 100 + p)) (fun p => Nat.le_add_right_of_le (by decide)) (⟨_, hB64, h63⟩ : device_Devices.O (fun p => 100 + p) ρ65 w58 g61 y56.1) hy67) (by decide) ?_
          rintro _ w68 ⟨rfl, hbw69⟩
          have htr70 := Tr.of_below hbw69 hb.bd
          replace hB64 := hB64.mv (htr70.mv (i := 100) rfl)
          replace h63 := h63.mv (htr70.mv (i := 101) rfl)
          replace hB7 := hB7.mv (htr70.mv (i := 8) rfl)
          replace hb := hb.trans htr70
          refine sr_ev (v := .bool y66) (ev_assign rfl) (by decide) ?_
          refine sr_end (l' := [(2, str user_2), (3, str id_3), (4, .int .i64 t_4), (6, .pointer (some ⟨g3, 0, none⟩)), (11, .pointer (some ⟨g61, 0, none⟩)), (13, .bool y66)]) (.cons rfl (.cons rfl (.cons rfl (.cons rfl (.cons rfl (.cons rfl (.nil _))))))) ?_
          refine ke_seq ?_
          refine ke_region ?_
          refine sr_ev (v := .pointer (some ⟨g61, 0, none⟩)) (ev_move rfl) (by decide) ?_
          refine sr_ev (v := .pointer (some ⟨g3, 1, none⟩)) (ev_fieldAddr (i := 1) Tryd.underlying39 rfl Tryd.info9 rfl rfl) (by decide) ?_
          refine sr_ev (v := str o_1.User) (ev_load Tryd.isAgg9 rfl (hB7.cell rfl)) (by decide) ?_
          refine sr_ev (v := .pointer (some ⟨g3, 2, none⟩)) (ev_fieldAddr (i := 2) Tryd.underlying39 rfl Tryd.info9 rfl rfl) (by decide) ?_
          refine sr_ev (v := str o_1.ID) (ev_load Tryd.isAgg9 rfl (hB7.cell rfl)) (by decide) ?_
          refine sr_ev (v := .pointer (some ⟨g3, 3, none⟩)) (ev_fieldAddr (i := 3) Tryd.underlying39 rfl Tryd.info9 rfl rfl) (by decide) ?_
          refine sr_ev (v := str o_1.Secret) (ev_load Tryd.isAgg9 rfl (hB7.cell rfl)) (by decide) ?_
          refine sr_ev (v := .pointer (some ⟨g3, 4, none⟩)) (ev_fieldAddr (i := 4) Tryd.underlying39 rfl Tryd.info3 rfl rfl) (by decide) ?_
          refine sr_ev (v := .int .i64 o_1.Until) (ev_load Tryd.isAgg3 rfl (hB7.cell rfl)) (by decide) ?_
          refine sr_ev (v := .pointer (some ⟨g3, 5, none⟩)) (ev_fieldAddr (i := 5) Tryd.underlying39 rfl Tryd.info3 rfl rfl) (by decide) ?_
          refine sr_ev (v := .int .i64 o_1.Now) (ev_load Tryd.isAgg3 rfl (hB7.cell rfl)) (by decide) ?_
          obtain ⟨y71, hy72, hS⟩ := bind_some' hS
          refine sr_call (vs := [.pointer (some ⟨g61, 0, none⟩), str o_1.User, str o_1.ID, str o_1.Secret, .int .i64 o_1.Until, .int .i64 o_1.Now]) rfl Tryd.call17 rfl (device_Devices_Trust_ok _ (hg.fr hz hb) (ρA := ρ65) hb.bd (hz.fr hg hb) (o := 100) (by decide) (⟨_, hB64, h63⟩ : device_Devices.O (fun p => 100 + p) ρ65 w68 g61 y56.1) hy72) (by decide) ?_
          rintro _ w73 ⟨ρ79, rfl, ⟨v76, hB78, h77⟩, htr75⟩
          replace hB7 := hB7.mv (htr75.mv (i := 8) rfl)
          replace hb := hb.trans htr75
          replace hB78 : Blk ρ79 100 w73 g61 (.cells #[v76, .int .i64 y71.2.given] 62 (0, 0)) := hB78
          replace h77 : MapT device_key.ek device_record.c true ρ79 101 w73 v76 y71.2.records := h77
          refine sr_ev (v := .int .i64 y71.1) (ev_assign rfl) (by decide) ?_
          refine sr_end (l' := [(2, str user_2), (3, str id_3), (4, .int .i64 t_4), (6, .pointer (some ⟨g3, 0, none⟩)), (11, .pointer (some ⟨g61, 0, none⟩)), (13, .bool y66), (14, .int .i64 y71.1)]) (.cons rfl (.cons rfl (.cons rfl (.cons rfl (.cons rfl (.cons rfl (.cons rfl (.nil _)))))))) ?_
          refine ke_seq ?_
          refine ke_seq ?_
          refine ke_region ?_
          refine sr_ev (v := .bool y66) (ev_move rfl) (by decide) ?_
          refine sr_ev (v := .bool y66) (ev_move rfl) (by decide) ?_
          obtain ⟨z82, hz84, hS⟩ := bind_some' hS
          refine sr_join (m := 7) (C := fun (z : Bool) w1 => z82 = z ∧ ∃ ρ1, Tr ρ79 w73 (fun _ => false) ρ1 w1) (l' := fun z => [(4, .int .i64 t_4), (6, .pointer (some ⟨g3, 0, none⟩)), (11, .pointer (some ⟨g61, 0, none⟩)), (14, .int .i64 y71.1), (60, .bool z)]) ?_ ?_
          · rintro _ w85 ⟨rfl, ρ86, hj83⟩
            replace hB78 := hB78.mv (hj83.mv (i := 100) rfl)
            replace h77 := h77.mv (hj83.mv (i := 101) rfl)
            replace hB7 := hB7.mv (hj83.mv (i := 8) rfl)
            replace hb := hb.trans hj83
            refine sr_end (l' := [(4, .int .i64 t_4), (6, .pointer (some ⟨g3, 0, none⟩)), (11, .pointer (some ⟨g61, 0, none⟩)), (14, .int .i64 y71.1), (60, .bool z82)]) (.cons rfl (.cons rfl (.cons rfl (.cons rfl (.cons rfl (.nil _)))))) ?_
            refine ke_cond (t := z82) rfl (fun hc93 => ?_) (fun hc93 => ?_)
            · replace hS := ite_true' hS hc93
              refine ke_seq ?_
              refine ke_region ?_
              refine sr_ev (v := .bool false) (ev_assign rfl) (by decide) ?_
              refine sr_end (l' := [(10, .bool false)]) (.cons rfl (.nil _)) ?_
              cases hS
              exact ke_ret1 Tryd.func7 rfl rfl ⟨_, rfl, rfl, (hb.below (flat1_le _))⟩
            · replace hS := ite_false' hS hc93
              refine ke_skip ?_
              refine ke_seq ?_
              refine ke_region_q Tryd.mixed (by kernel_rfl) ?_
              refine sq_ev (v := .int .i64 y71.1) (fun w1 hw1 => ev_move rfl) (by decide) ?_
              refine sq_ev (v := .bool (y71.1 != 0)) (fun w1 hw1 => ev_ne rfl rfl) (by decide) ?_
              refine sq_ev (v := .bool (y71.1 != 0)) (fun w1 hw1 => ev_move rfl) (by decide) ?_
              obtain ⟨z98, hz100, hS⟩ := bind_some' hS
              refine sq_join (m := 7) (C := fun (x : Bool) => z98 = x) (l' := fun x => [(4, .int .i64 t_4), (6, .pointer (some ⟨g3, 0, none⟩)), (11, .pointer (some ⟨g61, 0, none⟩)), (70, .bool x)]) ?_ ?_
              · rintro _ rfl
                refine sq_ev (v := .bool z98) (fun w1 hw1 => ev_move rfl) (by decide) ?_
                obtain ⟨z115, hz117, hS⟩ := bind_some' hS
                refine sq_join (m := 8) (C := fun (x : Bool) => z115 = x) (l' := fun x => [(79, .bool x)]) ?_ ?_
                · rintro _ rfl
                  refine sq_ev (v := .bool z115) (fun w1 hw1 => ev_assign rfl) (by decide) ?_
                  refine sq_end (l' := [(10, .bool z115)]) (.cons rfl (.nil _)) (fun w95 hw94 => ?_)
                  have htr125 := Tr.of_below hw94 hb.bd
                  replace hb := hb.trans htr125
                  cases hS
                  exact ke_ret1 Tryd.func7 rfl rfl ⟨_, rfl, rfl, (hb.below (flat1_le _))⟩
                · intro K114
                  clear hS
                  rcases Bool.eq_false_or_eq_true z98 with hg113 | hg113
                  · have hS := ite_true' hz117 hg113
                    refine sq_pass (e := 71) rfl rfl (by rw [hg113]; rfl) (by decide) ?_
                    refine sq_pass (e := 71) rfl rfl (by rw [hg113]; rfl) (by decide) ?_
                    refine sq_pass (e := 71) rfl rfl (by rw [hg113]; rfl) (by decide) ?_
                    refine sq_pass (e := 71) rfl rfl (by rw [hg113]; rfl) (by decide) ?_
                    refine sq_pass (e := 71) rfl rfl (by rw [hg113]; rfl) (by decide) ?_
                    refine sq_pass (e := 71) rfl rfl (by rw [hg113]; rfl) (by decide) ?_
                    refine sq_pass (e := 71) rfl rfl (by rw [hg113]; rfl) (by decide) ?_
                    refine sq_ev (v := .bool true) (fun w1 hw1 => ev_pick_t rfl hg113 rfl) (by decide) ?_
                    exact sq_weaken (l' := [(79, .bool true)]) (.cons rfl (.nil _)) (K114 true (Option.some.inj hS).symm)
                  · have hS := ite_false' hz117 hg113
                    refine sq_evg (b := false) (e := 71) rfl rfl hg113 (v := .pointer (some ⟨g61, 0, none⟩)) (fun w1 hw1 => ev_move rfl) (by decide) ?_
                    refine sq_evg (b := false) (e := 71) rfl rfl hg113 (v := .pointer (some ⟨g3, 1, none⟩)) (fun w1 hw1 => ev_fieldAddr (i := 1) Tryd.underlying39 rfl Tryd.info9 rfl rfl) (by decide) ?_
                    refine sq_evg (b := false) (e := 71) rfl rfl hg113 (v := str o_1.User) (fun w1 hw1 => ev_load Tryd.isAgg9 rfl ((hB7.mv (Mv.of_below (i := 8) (ρ := ρ86) hw1)).cell rfl)) (by decide) ?_
                    refine sq_evg (b := false) (e := 71) rfl rfl hg113 (v := .pointer (some ⟨g3, 2, none⟩)) (fun w1 hw1 => ev_fieldAddr (i := 2) Tryd.underlying39 rfl Tryd.info9 rfl rfl) (by decide) ?_
                    refine sq_evg (b := false) (e := 71) rfl rfl hg113 (v := str o_1.ID) (fun w1 hw1 => ev_load Tryd.isAgg9 rfl ((hB7.mv (Mv.of_below (i := 8) (ρ := ρ86) hw1)).cell rfl)) (by decide) ?_
                    refine sq_evg (b := false) (e := 71) rfl rfl hg113 (v := .int .i64 t_4) (fun w1 hw1 => ev_move rfl) (by decide) ?_
                    obtain ⟨y120, hy121, hS⟩ := bind_some' hS
                    refine sq_callg (b := false) (e := 71) rfl rfl hg113 (v := .bool y120) (vs := [.pointer (some ⟨g61, 0, none⟩), str o_1.User, str o_1.ID, .int .i64 t_4]) rfl Tryd.call13 rfl (fun w1 hw1 => (device_Devices_Trusted_ok _ ((hg.fr hz hb).below hw1) (ρA := ρ86) (fun b h => Nat.lt_of_lt_of_le (hb.bd b h) hw1.size) (hz.fr hg hb) (τ0 := (fun p => 100 + p)) (fun p => Nat.le_add_right_of_le (by decide)) (⟨_, (hB78.mv (Mv.of_below (i := 100) (ρ := ρ86) hw1)), (h77.mv (Mv.of_below (i := 101) (ρ := ρ86) hw1))⟩ : device_Devices.O (fun p => 100 + p) ρ86 w1 g61 y71.2) hy121)) (by decide) ?_
                    refine sq_ev (v := .bool y120) (fun w1 hw1 => ev_pick_f rfl hg113 rfl) (by decide) ?_
                    exact sq_weaken (l' := [(79, .bool y120)]) (.cons rfl (.nil _)) (K114 y120 (Option.some.inj hS).symm)
              · intro K97
                clear hS
                rcases Bool.eq_false_or_eq_true (y71.1 != 0) with hg96 | hg96
                · have hS := ite_true' hz100 hg96
                  refine sq_pass (e := 63) rfl rfl (by rw [hg96]; rfl) (by decide) ?_
                  refine sq_pass (e := 63) rfl rfl (by rw [hg96]; rfl) (by decide) ?_
                  refine sq_pass (e := 63) rfl rfl (by rw [hg96]; rfl) (by decide) ?_
                  refine sq_pass (e := 63) rfl rfl (by rw [hg96]; rfl) (by decide) ?_
                  refine sq_pass (e := 63) rfl rfl (by rw [hg96]; rfl) (by decide) ?_
                  refine sq_pass (e := 63) rfl rfl (by rw [hg96]; rfl) (by decide) ?_
                  refine sq_ev (v := .bool true) (fun w1 hw1 => ev_pick_t rfl hg96 rfl) (by decide) ?_
                  exact sq_weaken (l' := [(4, .int .i64 t_4), (6, .pointer (some ⟨g3, 0, none⟩)), (11, .pointer (some ⟨g61, 0, none⟩)), (70, .bool true)]) (.cons rfl (.cons rfl (.cons rfl (.cons rfl (.nil _))))) (K97 true (Option.some.inj hS).symm)
                · have hS := ite_false' hz100 hg96
                  refine sq_evg (b := false) (e := 63) rfl rfl hg96 (v := .int .i64 t_4) (fun w1 hw1 => ev_move rfl) (by decide) ?_
                  obtain ⟨y103, hy104, hS⟩ := bind_some' hS
                  refine sq_callg (b := false) (e := 63) rfl rfl hg96 (v := .int .i64 y103) (vs := [.int .i64 t_4, .int .i64 0]) rfl Tryd.call26 rfl (fun w1 hw1 => (clock_Add_ok _ ((hg.fr hz hb).below hw1) hy104)) (by decide) ?_
                  refine sq_evg (b := false) (e := 63) rfl rfl hg96 (v := .pointer (some ⟨g3, 4, none⟩)) (fun w1 hw1 => ev_fieldAddr (i := 4) Tryd.underlying39 rfl Tryd.info3 rfl rfl) (by decide) ?_
                  refine sq_evg (b := false) (e := 63) rfl rfl hg96 (v := .int .i64 o_1.Until) (fun w1 hw1 => ev_load Tryd.isAgg3 rfl ((hB7.mv (Mv.of_below (i := 8) (ρ := ρ86) hw1)).cell rfl)) (by decide) ?_
                  obtain ⟨y108, hy109, hS⟩ := bind_some' hS
                  refine sq_callg (b := false) (e := 63) rfl rfl hg96 (v := .int .i64 y108) (vs := [.int .i64 o_1.Until, .int .i64 0]) rfl Tryd.call26 rfl (fun w1 hw1 => (clock_Add_ok _ ((hg.fr hz hb).below hw1) hy109)) (by decide) ?_
                  refine sq_evg (b := false) (e := 63) rfl rfl hg96 (v := .bool (decide (y103 ≥ y108))) (fun w1 hw1 => ev_ge rfl rfl) (by decide) ?_
                  refine sq_ev (v := .bool (decide (y103 ≥ y108))) (fun w1 hw1 => ev_pick_f rfl hg96 rfl) (by decide) ?_
                  exact sq_weaken (l' := [(4, .int .i64 t_4), (6, .pointer (some ⟨g3, 0, none⟩)), (11, .pointer (some ⟨g61, 0, none⟩)), (70, .bool (decide (y103 ≥ y108)))]) (.cons rfl (.cons rfl (.cons rfl (.cons rfl (.nil _))))) (K97 (decide (y103 ≥ y108)) (Option.some.inj hS).symm)
          · intro K81
            clear hS
            have hj83 : Tr ρ79 w73 (fun _ => false) ρ79 w73 := (Tr.refl hb.bd).weak (fun _ _ => rfl) rfl rfl
            rcases Bool.eq_false_or_eq_true y66 with hg80 | hg80
            · have hS := ite_true' hz84 hg80
              refine sr_evg (b := true) (e := 53) rfl rfl hg80 (v := .pointer (some ⟨g61, 0, none⟩)) (ev_move rfl) (by decide) ?_
              refine sr_evg (b := true) (e := 53) rfl rfl hg80 (v := str user_2) (ev_move rfl) (by decide) ?_
              refine sr_evg (b := true) (e := 53) rfl rfl hg80 (v := str id_3) (ev_move rfl) (by decide) ?_
              refine sr_evg (b := true) (e := 53) rfl rfl hg80 (v := .int .i64 t_4) (ev_move rfl) (by decide) ?_
              obtain ⟨y88, hy89, hS⟩ := bind_some' hS
              refine sr_callg (b := true) (e := 53) rfl rfl hg80 (vs := [.pointer (some ⟨g61, 0, none⟩), str user_2, str id_3, .int .i64 t_4]) rfl Tryd.call13 rfl (device_Devices_Trusted_ok _ (hg.fr hz hb) (ρA := ρ79) hb.bd (hz.fr hg hb) (τ0 := (fun p => 100 + p)) (fun p => Nat.le_add_right_of_le (by decide)) (⟨_, hB78, h77⟩ : device_Devices.O (fun p => 100 + p) ρ79 w73 g61 y71.2) hy89) (by decide) ?_
              rintro _ w90 ⟨rfl, hbw91⟩
              have htr92 := Tr.of_below hbw91 hb.bd
              replace hB78 := hB78.mv (htr92.mv (i := 100) rfl)
              replace h77 := h77.mv (htr92.mv (i := 101) rfl)
              replace hB7 := hB7.mv (htr92.mv (i := 8) rfl)
              replace hb := hb.trans htr92
              replace hj83 := (hj83.trans htr92).weak (J' := (fun _ => false)) (by intro t h; simp [rng] at h ⊢ <;> omega) rfl rfl
              refine sr_evg (b := true) (e := 53) rfl rfl hg80 (v := .bool (!y88)) (ev_not rfl) (by decide) ?_
              refine sr_ev (v := .bool (!y88)) (ev_pick_t rfl hg80 rfl) (by decide) ?_
              exact sr_weaken (l' := [(4, .int .i64 t_4), (6, .pointer (some ⟨g3, 0, none⟩)), (11, .pointer (some ⟨g61, 0, none⟩)), (14, .int .i64 y71.1), (60, .bool (!y88))]) (.cons rfl (.cons rfl (.cons rfl (.cons rfl (.cons rfl (.nil _)))))) (K81 (!y88) _ ⟨(Option.some.inj hS).symm, _, hj83⟩)
            · have hS := ite_false' hz84 hg80
              refine sr_pass (e := 53) rfl rfl (by rw [hg80]; rfl) (by decide) ?_
              refine sr_pass (e := 53) rfl rfl (by rw [hg80]; rfl) (by decide) ?_
              refine sr_pass (e := 53) rfl rfl (by rw [hg80]; rfl) (by decide) ?_
              refine sr_pass (e := 53) rfl rfl (by rw [hg80]; rfl) (by decide) ?_
              refine sr_pass (e := 53) rfl rfl (by rw [hg80]; rfl) (by decide) ?_
              refine sr_pass (e := 53) rfl rfl (by rw [hg80]; rfl) (by decide) ?_
              refine sr_ev (v := .bool false) (ev_pick_f rfl hg80 rfl) (by decide) ?_
              exact sr_weaken (l' := [(4, .int .i64 t_4), (6, .pointer (some ⟨g3, 0, none⟩)), (11, .pointer (some ⟨g61, 0, none⟩)), (14, .int .i64 y71.1), (60, .bool false)]) (.cons rfl (.cons rfl (.cons rfl (.cons rfl (.cons rfl (.nil _)))))) (K81 false _ ⟨(Option.some.inj hS).symm, _, hj83⟩)
      · intro K38
        clear hS
        have hj40 : Tr ρ25 w24 (fun _ => false) ρ25 w24 := (Tr.refl hb.bd).weak (fun _ _ => rfl) rfl rfl
        rcases Bool.eq_false_or_eq_true z21 with hg37 | hg37
        · have hS := ite_true' hz41 hg37
          refine sr_pass (e := 24) rfl rfl (by rw [hg37]; rfl) (by decide) ?_
          refine sr_pass (e := 24) rfl rfl (by rw [hg37]; rfl) (by decide) ?_
          refine sr_pass (e := 24) rfl rfl (by rw [hg37]; rfl) (by decide) ?_
          refine sr_pass (e := 24) rfl rfl (by rw [hg37]; rfl) (by decide) ?_
          refine sr_ev (v := .bool true) (ev_pick_t rfl hg37 rfl) (by decide) ?_
          exact sr_weaken (l' := [(0, v1), (2, str user_2), (3, str id_3), (4, .int .i64 t_4), (6, .pointer (some ⟨g3, 0, none⟩)), (29, .bool true)]) (.cons rfl (.cons rfl (.cons rfl (.cons rfl (.cons rfl (.cons rfl (.nil _))))))) (K38 true _ ⟨(Option.some.inj hS).symm, _, hj40⟩)
        · have hS := ite_false' hz41 hg37
          refine sr_evg (b := false) (e := 24) rfl rfl hg37 (v := str user_2) (ev_move rfl) (by decide) ?_
          refine sr_evg (b := false) (e := 24) rfl rfl hg37 (v := str id_3) (ev_move rfl) (by decide) ?_
          refine sr_unguard rfl rfl hg37 ?_
          refine sr_litT (c := strC) (ρ := ρ25) (E := 9) (xs := [user_2, id_3]) (vs := #[(0, str user_2), (1, str id_3)]) (cs := #[str user_2, str id_3]) (css := [[str user_2], [str id_3]]) rfl (fun _ => by kernel_rfl) rfl ⟨rfl, ⟨rfl, trivial⟩⟩ rfl (by decide) hb.bd (by decide) ?_
          intro v45 w47 h46 hbw49
          have htr48 := Tr.of_below hbw49 hb.bd
          replace h2 := h2.mv htr48.rd
          replace hB7 := hB7.mv (htr48.mv (i := 8) rfl)
          replace hb := hb.trans htr48
          replace hj40 := (hj40.trans htr48).weak (J' := (fun _ => false)) (by intro t h; simp [rng] at h ⊢ <;> omega) rfl rfl
          obtain ⟨y50, hy51, hS⟩ := bind_some' hS
          refine sr_callg (b := false) (e := 24) rfl rfl hg37 (vs := [v45, .int .i64 2, .int .i64 300]) rfl Tryd.call10 rfl (ref02_Great_ok _ (hg.fr hz hb) h46.asSl hy51) (by decide) ?_
          rintro _ w52 ⟨rfl, hbw53⟩
          have htr54 := Tr.of_below hbw53 hb.bd
          replace h2 := h2.mv htr54.rd
          replace hB7 := hB7.mv (htr54.mv (i := 8) rfl)
          replace hb := hb.trans htr54
          replace hj40 := (hj40.trans htr54).weak (J' := (fun _ => false)) (by intro t h; simp [rng] at h ⊢ <;> omega) rfl rfl
          refine sr_ev (v := .bool y50) (ev_pick_f rfl hg37 rfl) (by decide) ?_
          exact sr_weaken (l' := [(0, v1), (2, str user_2), (3, str id_3), (4, .int .i64 t_4), (6, .pointer (some ⟨g3, 0, none⟩)), (29, .bool y50)]) (.cons rfl (.cons rfl (.cons rfl (.cons rfl (.cons rfl (.cons rfl (.nil _))))))) (K38 y50 _ ⟨(Option.some.inj hS).symm, _, hj40⟩)
    · intro K20
      clear hS
      have hj22 : Tr ρ4 w16 (fun _ => false) ρ4 w16 := (Tr.refl hb.bd).weak (fun _ _ => rfl) rfl rfl
      rcases Bool.eq_false_or_eq_true y14 with hg19 | hg19
      · have hS := ite_true' hz23 hg19
        refine sr_pass (e := 19) rfl rfl (by rw [hg19]; rfl) (by decide) ?_
        refine sr_pass (e := 19) rfl rfl (by rw [hg19]; rfl) (by decide) ?_
        refine sr_pass (e := 19) rfl rfl (by rw [hg19]; rfl) (by decide) ?_
        refine sr_ev (v := .bool true) (ev_pick_t rfl hg19 rfl) (by decide) ?_
        exact sr_weaken (l' := [(0, v1), (2, str user_2), (3, str id_3), (4, .int .i64 t_4), (6, .pointer (some ⟨g3, 0, none⟩)), (23, .bool true)]) (.cons rfl (.cons rfl (.cons rfl (.cons rfl (.cons rfl (.cons rfl (.nil _))))))) (K20 true _ ⟨(Option.some.inj hS).symm, _, hj22⟩)
      · have hS := ite_false' hz23 hg19
        refine sr_evg (b := false) (e := 19) rfl rfl hg19 (v := .agg #[.int .i64 o_1.Kind, str o_1.User, str o_1.ID, str o_1.Secret, .int .i64 o_1.Until, .int .i64 o_1.Now]) (ev_loads (cs := [.int .i64 o_1.Kind, str o_1.User, str o_1.ID, str o_1.Secret, .int .i64 o_1.Until, .int .i64 o_1.Now]) Tryd.isAgg39 Tryd.sizeOf39 rfl (hB7.cells (vs := [.int .i64 o_1.Kind, str o_1.User, str o_1.ID, str o_1.Secret, .int .i64 o_1.Until, .int .i64 o_1.Now]) rfl)) (by decide) ?_
        refine sr_unguard rfl rfl hg19 ?_
        refine sr_litT (c := law37_Op.c) (ρ := ρ4) (E := 39) (xs := [o_1]) (vs := #[(0, .agg #[.int .i64 o_1.Kind, str o_1.User, str o_1.ID, str o_1.Secret, .int .i64 o_1.Until, .int .i64 o_1.Now])]) (cs := #[.int .i64 o_1.Kind, str o_1.User, str o_1.ID, str o_1.Secret, .int .i64 o_1.Until, .int .i64 o_1.Now]) (css := [[.int .i64 o_1.Kind, str o_1.User, str o_1.ID, str o_1.Secret, .int .i64 o_1.Until, .int .i64 o_1.Now]]) rfl (fun _ => by kernel_rfl) rfl ⟨rfl, trivial⟩ rfl (by decide) hb.bd (by decide) ?_
        intro v27 w29 h28 hbw31
        have htr30 := Tr.of_below hbw31 hb.bd
        replace h2 := h2.mv htr30.rd
        replace hB7 := hB7.mv (htr30.mv (i := 8) rfl)
        replace hb := hb.trans htr30
        replace hj22 := (hj22.trans htr30).weak (J' := (fun _ => false)) (by intro t h; simp [rng] at h ⊢ <;> omega) rfl rfl
        obtain ⟨y32, hy33, hS⟩ := bind_some' hS
        refine sr_callg (b := false) (e := 19) rfl rfl hg19 (vs := [v27, .int .i64 1]) rfl Tryd.call9 rfl (law37_long_ok _ (hg.fr hz hb) (ρA := ρ4) hb.bd (hz.fr hg hb) h28 hy33) (by decide) ?_
        rintro _ w34 ⟨rfl, hbw35⟩
        have htr36 := Tr.of_below hbw35 hb.bd
        replace h2 := h2.mv htr36.rd
        replace hB7 := hB7.mv (htr36.mv (i := 8) rfl)
        replace hb := hb.trans htr36
        replace hj22 := (hj22.trans htr36).weak (J' := (fun _ => false)) (by intro t h; simp [rng] at h ⊢ <;> omega) rfl rfl
        refine sr_ev (v := .bool y32) (ev_pick_f rfl hg19 rfl) (by decide) ?_
        exact sr_weaken (l' := [(0, v1), (2, str user_2), (3, str id_3), (4, .int .i64 t_4), (6, .pointer (some ⟨g3, 0, none⟩)), (23, .bool y32)]) (.cons rfl (.cons rfl (.cons rfl (.cons rfl (.cons rfl (.cons rfl (.nil _))))))) (K20 y32 _ ⟨(Option.some.inj hS).symm, _, hj22⟩)
end YtangcaaneobhnaaDoor
end Go.Proofs
