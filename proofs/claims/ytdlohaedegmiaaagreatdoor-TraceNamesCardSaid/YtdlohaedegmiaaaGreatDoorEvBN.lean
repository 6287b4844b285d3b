/- wreckagelaw45.TraceNames returns true and leaves what there was as it was: the limits, marks that do not fit, lines and texts that are none, and the errors of package trace. No condition. -/
import Derived.Test.YtdlohaedegmiaaaGreatDoorEvAT
import Derived.Test.YtdlohaedegmiaaaGreatDoorEvBM
namespace Go.Proofs.YtdlohaedegmiaaaGreatDoor
theorem traceNames_card : Rows.TraceNamesCardSaid := ud fun W h hn => Go.Proofs.YtdlohaedegmiaaaGreatDoor.Tz.a3E W h hn
end Go.Proofs.YtdlohaedegmiaaaGreatDoor
