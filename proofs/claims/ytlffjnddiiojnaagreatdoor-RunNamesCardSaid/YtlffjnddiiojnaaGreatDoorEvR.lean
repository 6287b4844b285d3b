import Derived.Test.YtlffjnddiiojnaaGreatDoorEvP
import Derived.Test.YtlffjnddiiojnaaGreatDoorEvQ
/- RunNames returns true in every world that has the library's variables, and leaves what there was. No condition. -/
namespace Go.Proofs.YtlffjnddiiojnaaGreatDoor
theorem runNames_card : Rows.RunNamesCardSaid := card_holds fun W h hn => Go.Proofs.YtlffjnddiiojnaaGreatDoor.Tz.allTrue W h hn
end Go.Proofs.YtlffjnddiiojnaaGreatDoor
