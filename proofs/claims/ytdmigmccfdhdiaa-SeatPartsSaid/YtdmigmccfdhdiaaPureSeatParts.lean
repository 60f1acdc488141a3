/- Any text of at most 2^47 - 4096 bytes: an authority is parted by the program as by the reference, and joined again it is itself. No condition beside the row's own. -/
import Derived.Test.YtdmigmccfdhdiaaSeat1
import Derived.Test.YtdmigmccfdhdiaaXx5
namespace Go.Proofs.Ytdmigmccfdhdiaa.Pure
open Go.RowKit Go.Proofs.Ytdmigmccfdhdiaa.X Go.Proofs.Ytdmigmccfdhdiaa.M Go.Proofs.Ytdmigmccfdhdiaa.Y Go.Proofs.YtdmigmccfdhdiaaW.PrintWords Go.Proofs.YtdmigmccfdhdiaaW.PrintLast

theorem awake21 : Ev (fun k => monikerlaw21_awake.f k) true := by
  unfold monikerlaw21_awake.f
  refine Ev.bind' (part_f (⟨#[117, 64, 104, 58, 56, 48]⟩ : ByteArray) (by decide)) ?_
  refine Ev.bind' (part_f (⟨#[91, 58, 58, 49, 93, 58]⟩ : ByteArray) (by decide)) ?_
  exact Ev.ret fun _ => by decide +kernel

theorem SeatParts : monikerlaw21_SeatParts.Pure := by
  intro s hs
  refine Ev.rounds (r := true) ?_
  unfold monikerlaw21_SeatParts.f
  have aw : Ev (fun k => (monikerlaw21_awake.f k).bind fun t => some t) true := Ev.bind' awake21 (Ev.now _)
  by_cases h : (s.size : Int) > 200
  · exact Ev.ite_pos h aw
  · refine Ev.ite_neg h ?_
    refine Ev.bind' (part_f s hs) (Ev.bind' (refPart_f s hs) ?_)
    refine Ev.ite_pos (by simp) ?_
    have hz := part_sizes s
    refine Ev.pure_bind (join_f (partS s) (by omega) (by omega) (by omega)) ?_
    exact Ev.ite_pos (by rw [join_part]) aw
end Go.Proofs.Ytdmigmccfdhdiaa.Pure
