/- Short names. -/
import Derived.Test.YtjbcdmheajljpaaGreatZRcS
import Derived.Test.YtjbcdmheajljpaaGreatZRcF
namespace Go.Proofs.YtjbcdmheajljpaaGreat
open Go Go.RowKit
abbrev ee (n:Int):Value:=.int .i64 n
abbrev ei (b:Nat) (c:Array Value) (t:TypeId):Item:=.blk b (.cells c t)
abbrev et:Array Value:=#[.int .i64 0,.int .i64 0,.string ⟨#[]⟩,.slice none 0 0]
abbrev eu:Array Value:=#[.int .i64 0,.int .i64 0,.string ⟨#[]⟩,.slice none 0 0,.slice none 0 0]
abbrev hV (b:Nat):Value:=.pointer (some ⟨b,0,none⟩)
abbrev kh (b o:Nat):Value:=.pointer (some ⟨b,o,none⟩)
abbrev kt (b o n m:Nat):Value:=.slice (some ⟨b,o,none⟩) n m
abbrev nx:Value:=.slice none 0 0
abbrev nA:=List Value
abbrev ku (t:T) (k:Value):Array Value:=#[.int .i64 t.kind,.int .i64 t.n,.string t.name,k]
abbrev kB (t:T) (k:Value):List Value:=[.int .i64 t.kind,.int .i64 t.n,.string t.name,k]
abbrev nB:=Tri Tryz.prog
abbrev ru:=Pure Tryz.prog
end Go.Proofs.YtjbcdmheajljpaaGreat
