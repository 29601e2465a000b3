/- Short names. -/
import Derived.Test.YtellfcpffcipcaaGreatDoorZCjS
import Derived.Test.YtellfcpffcipcaaGreatDoorZCjF
namespace Go.Proofs.YtellfcpffcipcaaGreatDoor
open Go Go.RowKit
abbrev ax (n:Int):Value:=.int .i64 n
abbrev ay (b:Nat) (c:Array Value) (t:TypeId):Item:=.blk b (.cells c t)
abbrev bb:Array Value:=#[.int .i64 0,.int .i64 0,.string ⟨#[]⟩,.slice none 0 0]
abbrev eb:Array Value:=#[.int .i64 0,.int .i64 0,.string ⟨#[]⟩,.slice none 0 0,.slice none 0 0]
abbrev ee (b:Nat):Value:=.pointer (some ⟨b,0,none⟩)
abbrev eu (b o:Nat):Value:=.pointer (some ⟨b,o,none⟩)
abbrev eF (b o n m:Nat):Value:=.slice (some ⟨b,o,none⟩) n m
abbrev hV:Value:=.slice none 0 0
abbrev hZ:=List Value
abbrev gn (t:T) (k:Value):Array Value:=#[.int .i64 t.kind,.int .i64 t.n,.string t.name,k]
abbrev hJ (t:T) (k:Value):List Value:=[.int .i64 t.kind,.int .i64 t.n,.string t.name,k]
abbrev kt:=Tri Tryz.prog
abbrev ll:=Pure Tryz.prog
end Go.Proofs.YtellfcpffcipcaaGreatDoor
