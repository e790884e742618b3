/- The frame of a law whose row lists the variables that the program's text lays (the walk does not need them). -/
import Derived.Test.YtockdfnnhkhlkaaGreatDoorMkFrame
import Derived.Test.YtockdfnnhkhlkaaGreatDoorMkHSeq
import Derived.Test.YtockdfnnhkhlkaaGreatDoorTie
import Derived.Test.YtockdfnnhkhlkaaGreatDoorCards
import Derived.MakeChecks
import Derived.LaidMore
import Derived.Lay
import Derived.SevenTiedAt
import Derived.Stop.Joined
namespace Go.Proofs.YtockdfnnhkhlkaaGreatDoor.Frame
open Go.ChangeShapes Go.WideShapes Go.ChangeAt Go.RowKit Go.Proofs.YtockdfnnhkhlkaaGreatDoor.G
variable {H : Type} {enc : TypeId × Value → H}

def laidL : List (String × DataW Unit) := [("unicode.White_Space", Rows.laid_unicode_White_Space), ("strings.asciiSpace", Rows.laid_strings_asciiSpace)]

end Go.Proofs.YtockdfnnhkhlkaaGreatDoor.Frame
